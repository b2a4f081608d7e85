-- WRITTEN BY pp.py out of the translation; Lean checks it.
import Derived.Test.YtomccgpachmpbaaPBx0
namespace Go.Proofs.Ytomccgpachmpbaa.PB
open Go.RowKit Go.Proofs.YtomccgpachmpbaaW.PrintWords Go.Proofs.YtomccgpachmpbaaW.PrintLast Go.Proofs.YtomccgpachmpbaaW.PrintMore
attribute [local go_sem] max2_int min2_int max_two min_two max_three min_three max_four min_four   -- for this text's walks alone
set_option linter.unusedVariables false
set_option linter.unusedSimpArgs false

/-! ### charset_cut: function 31 -/
def charset_cut.f (a0_0 : Int) (a0_1 : Int) : Option (Int × Int × Bool) := some (mx a0_0 0, mn a0_1 1114111, decide ((mx a0_0 0) ≤ (mn a0_1 1114111)))
def charset_cut.T2 : Bool × List (List Nat × List Nat) := (true, [([], []), ([], []), ([1], [1]), ([], []), ([3], [3]), ([2, 4], [2, 4]), ([0, 0], [0]), ([5, 6, 0, 1, 2, 3, 4, 5, 6], [5])])
def charset_cut.B2 : List Nat := [0, 0, 2, 0, 8, 30, 1, 127]
theorem charset_cut.tab2 : rtab .any (opsOf Try.f31 2) = charset_cut.T2 := by kernel_rfl
theorem charset_cut.bits2 : waitsOk charset_cut.T2.2 charset_cut.B2 = true := by kernel_rfl
set_option maxHeartbeats 8000000 in
set_option maxRecDepth 100000 in
theorem charset_cut.calls (a0_0 : Int) (a0_1 : Int) (r1 : Int) (r2 : Int) (r3 : Bool) (w : World) (h : charset_cut.f a0_0 a0_1 = some (r1, r2, r3)) :
  Calls Try.prog 31 #[.agg #[.int .i32 a0_0, .int .i32 a0_1]] w fun e w' => e = .returned (.tuple #[.agg #[.int .i32 r1, .int .i32 r2], .bool r3]) ∧ Below w.heap.size w w' := by
 have hu41 := Try.underlying41; have HB := aM (Below.refl w.heap.size w); have H : (some (mx a0_0 0, mn a0_1 1114111, decide ((mx a0_0 0) ≤ (mn a0_1 1114111)))) = some (r1, r2, r3) := h; clear h; obtain ⟨ji2, hji2⟩ : ∃ j_ : Int, (mx a0_0 0) = j_ := ⟨_, rfl⟩; replace H : (some (ji2, mn a0_1 1114111, decide ((ji2) ≤ (mn a0_1 1114111)))) = some (r1, r2, r3) := by first | (rw [hji2] at H; exact H) | (simp only [hji2] at H ⊢; exact H)
 (try (have hji2l : 0 ≤ ji2 := by (rw [← hji2]; unfold mx; (repeat' split) <;> omega))); (try (have hji2m : 0 ≤ ji2 := by omega)); have hji2_ : (if a0_0 < 0 then 0 else a0_0) = ji2 := hji2; obtain ⟨ji3, hji3⟩ : ∃ j_ : Int, (mn a0_1 1114111) = j_ := ⟨_, rfl⟩; replace H : (some (ji2, ji3, decide ((ji2) ≤ (ji3)))) = some (r1, r2, r3) := by first | (rw [hji3] at H; exact H) | (simp only [hji3] at H ⊢; exact H)
 (try (have hji3h : ji3 ≤ 1114111 := by (rw [← hji3]; unfold mn; (repeat' split) <;> omega))); (try (have hji3g : ji3 ≤ 64 := by omega)); have hji3_ : (if 1114111 < a0_1 then 1114111 else a0_1) = ji3 := hji3; simp only [Option.some.injEq, Prod.mk.injEq] at H; obtain ⟨rfl, rfl, rfl⟩ := H; go_enter Try.func31, Try.ntmps31
 try go_wp2_with (first | ((with_reducible refine gate_dst (N := 1) rfl ?_); refine box_event ?hg (N := 1) ?hd (cs := #[.int .i32 a0_0, .int .i32 a0_1]) (t := 41) ?hr ?_; (case hd => rfl); (case hg => rfl); (case hr => first | (go_simp; done) | (go_simp; rfl)); intro gb101 hg w4 hbox hb; have n0_ := aM (below_step (hB_t HB.out) hb); have n1_ := aM (hbox); have n2_ := aM ((by rw [hg]; exact (below_size (hB_t HB.out)) : w.heap.size ≤ gb101)); have n3_ := aM ((by rw [hg]; exact (below_size (hB_t HB.out)) : w.heap.size ≤ gb101)); clear HB; have HB := n0_; have BK101 := n1_; have GW101 := n2_; have GE101 := n3_; clear n0_ n1_ n2_ n3_; clear hb hbox hg) | ((with_reducible refine gate_dst (N := 2) rfl ?_); refine box_event ?hg (N := 2) ?hd (cs := #[.int .i32 0, .int .i32 0]) (t := 41) ?hr ?_; (case hd => rfl); (case hg => rfl); (case hr => first | (go_simp; done) | (go_simp; rfl)); intro gb102 hg w5 hbox hb; have n0_ := aM (blk_below (bT BK101.out) hb); have n1_ := aM (below_step (by repeat (with_reducible first | exact HB.out | apply below_alloc | apply pw_below_drewN | apply below_drew1 | refine below_set ?_ GE101.out)) hb); have n2_ := aM (hbox); have n3_ := aM ((by rw [hg]; exact (below_size (by repeat (with_reducible first | exact HB.out | apply below_alloc | apply pw_below_drewN | apply below_drew1 | refine below_set ?_ GE101.out))) : w.heap.size ≤ gb102)); have n4_ := aM ((by rw [hg]; exact (below_size (by repeat (with_reducible first | exact HB.out | apply below_alloc | apply pw_below_drewN | apply below_drew1 | refine below_set ?_ GE101.out))) : w.heap.size ≤ gb102)); have n5_ := aM ((by rw [hg]; exact Nat.ne_of_lt (blk_lt (bT BK101.out)) : gb101 ≠ gb102)); have n6_ := aM ((by rw [hg]; exact Nat.ne_of_gt (blk_lt (bT BK101.out)) : gb102 ≠ gb101)); clear BK101; clear HB; have BK101 := n0_; have HB := n1_; have BK102 := n2_; have GW102 := n3_; have GE102 := n4_; have NB101_102 := n5_; have NB102_101 := n6_; clear n0_ n1_ n2_ n3_ n4_ n5_ n6_; clear hb hbox hg; have hnb6 := NB101_102.out; have hnc6 := NB102_101.out; have hcz7_0 : w5.cell? ⟨gb101, 0, none⟩ = some (.int .i32 a0_0) := (blk_cell BK101.out 0).trans rfl; have hcz7_1 : w5.cell? ⟨gb101, 1, none⟩ = some (.int .i32 a0_1) := (blk_cell BK101.out 1).trans rfl; have hfz7_0 := blk_frozen BK101.out 0; have hfz7_1 := blk_frozen BK101.out 1) | ((with_reducible refine gate_dst (N := 4) rfl ?_); refine box_event ?hg (N := 4) ?hd (cs := #[.int .i32 0, .int .i32 0]) (t := 41) ?hr ?_; (case hd => rfl); (case hg => rfl); (case hr => first | (go_simp; done) | (go_simp; rfl)); intro gb103 hg w8 hbox hb; have n0_ := aM (blk_below (bT BK101.out) hb); have n1_ := aM (blk_below (bT BK102.out) hb); have n2_ := aM (below_step (by repeat (with_reducible first | exact HB.out | apply below_alloc | apply pw_below_drewN | apply below_drew1 | refine below_set ?_ GE101.out | refine below_set ?_ GE102.out)) hb); have n3_ := aM (hbox); have n4_ := aM ((by rw [hg]; exact (below_size (by repeat (with_reducible first | exact HB.out | apply below_alloc | apply pw_below_drewN | apply below_drew1 | refine below_set ?_ GE101.out | refine below_set ?_ GE102.out))) : w.heap.size ≤ gb103)); have n5_ := aM ((by rw [hg]; exact (below_size (by repeat (with_reducible first | exact HB.out | apply below_alloc | apply pw_below_drewN | apply below_drew1 | refine below_set ?_ GE101.out | refine below_set ?_ GE102.out))) : w.heap.size ≤ gb103)); have n6_ := aM ((by rw [hg]; exact Nat.ne_of_lt (blk_lt (bT BK101.out)) : gb101 ≠ gb103)); have n7_ := aM ((by rw [hg]; exact Nat.ne_of_gt (blk_lt (bT BK101.out)) : gb103 ≠ gb101)); have n8_ := aM ((by rw [hg]; exact Nat.ne_of_lt (blk_lt (bT BK102.out)) : gb102 ≠ gb103)); have n9_ := aM ((by rw [hg]; exact Nat.ne_of_gt (blk_lt (bT BK102.out)) : gb103 ≠ gb102)); clear BK101; clear BK102; clear HB; have BK101 := n0_; have BK102 := n1_; have HB := n2_; have BK103 := n3_; have GW103 := n4_; have GE103 := n5_; have NB101_103 := n6_; have NB103_101 := n7_; have NB102_103 := n8_; have NB103_102 := n9_; clear n0_ n1_ n2_ n3_ n4_ n5_ n6_ n7_ n8_ n9_; clear hb hbox hg; have hnb9 := NB103_101.out; have hnc9 := NB101_103.out; have hnb10 := NB103_102.out; have hnc10 := NB102_103.out; have hcz11_0 : w8.cell? ⟨gb103, 0, none⟩ = some (.int .i32 0) := (blk_cell BK103.out 0).trans rfl; have hcz11_1 : w8.cell? ⟨gb103, 1, none⟩ = some (.int .i32 0) := (blk_cell BK103.out 1).trans rfl; have hfz11_0 := blk_frozen BK103.out 0; have hfz11_1 := blk_frozen BK103.out 1))
 have n0_ : Aside0 (((w8.setCell ⟨gb103, 0, none⟩ (.int .i32 ji2)).setCell ⟨gb103, 1, none⟩ (.int .i32 ji3)).heap[gb101]? = some (.cells #[.int .i32 a0_0, .int .i32 a0_1] 41 (0, 0))) := ⟨by (with_reducible repeat (first | refine blk_drewN ?_ _ | refine blk_drew ?_ | refine blk_alloc ?_ _)); refine blk_far ?_ NB101_103.out _; (with_reducible repeat (first | refine blk_drewN ?_ _ | refine blk_drew ?_ | refine blk_alloc ?_ _)); refine blk_far ?_ NB101_103.out _; exact bT BK101.out⟩; have n1_ : Aside0 (((w8.setCell ⟨gb103, 0, none⟩ (.int .i32 ji2)).setCell ⟨gb103, 1, none⟩ (.int .i32 ji3)).heap[gb102]? = some (.cells #[.int .i32 0, .int .i32 0] 41 (0, 0))) := ⟨by (with_reducible repeat (first | refine blk_drewN ?_ _ | refine blk_drew ?_ | refine blk_alloc ?_ _)); refine blk_far ?_ NB102_103.out _; (with_reducible repeat (first | refine blk_drewN ?_ _ | refine blk_drew ?_ | refine blk_alloc ?_ _)); refine blk_far ?_ NB102_103.out _; exact bT BK102.out⟩; have n2_ : Aside0 (((w8.setCell ⟨gb103, 0, none⟩ (.int .i32 ji2)).setCell ⟨gb103, 1, none⟩ (.int .i32 ji3)).heap[gb103]? = some (.cells #[.int .i32 ji2, .int .i32 ji3] 41 (0, 0))) := ⟨by (with_reducible repeat (first | refine blk_drewN ?_ _ | refine blk_drew ?_ | refine blk_alloc ?_ _)); refine blk_put (cs := #[.int .i32 ji2, .int .i32 0]) ?_ 1 _ rfl; (with_reducible repeat (first | refine blk_drewN ?_ _ | refine blk_drew ?_ | refine blk_alloc ?_ _)); refine blk_put (cs := #[.int .i32 0, .int .i32 0]) ?_ 0 _ rfl; exact bT BK103.out⟩; have n3_ : Aside0 (Below w.heap.size w ((w8.setCell ⟨gb103, 0, none⟩ (.int .i32 ji2)).setCell ⟨gb103, 1, none⟩ (.int .i32 ji3))) := ⟨by repeat (with_reducible first | exact HB.out | apply below_alloc | apply pw_below_drewN | apply below_drew1 | refine below_set ?_ GE101.out | refine below_set ?_ GE102.out | refine below_set ?_ GE103.out)⟩; (try clear BK101); (try clear BK102); (try clear BK103); (try clear HB); generalize ((w8.setCell ⟨gb103, 0, none⟩ (.int .i32 ji2)).setCell ⟨gb103, 1, none⟩ (.int .i32 ji3)) = w12 at n0_ n1_ n2_ n3_ ⊢; have BK101 := n0_; have BK102 := n1_; have BK103 := n2_; have HB := n3_; clear n0_ n1_ n2_ n3_; have n0_ := aM (blk_drew BK101.out); have n1_ := aM (blk_drew BK102.out); have n2_ := aM (blk_drew BK103.out); have n3_ := aM (below_drew1 HB.out); clear BK101; clear BK102; clear BK103; clear HB; have BK101 := n0_; have BK102 := n1_; have BK103 := n2_; have HB := n3_; clear n0_ n1_ n2_ n3_; refine start_ (n := 8) (S := fun w' => w'.cell? ⟨gb103, 0, none⟩ = some (.int .i32 ji2) ∧ w'.cell? ⟨gb103, 1, none⟩ = some (.int .i32 ji3)) (ds := []) #[F,F,F,F,F,F,F,F] (by kernel_rfl) rfl rfl ⟨(blk_cell BK103.out 0).trans rfl, (blk_cell BK103.out 1).trans rfl⟩ (fun hHeld => ?_); refine with_tabW charset_cut.tab2 charset_cut.bits2 (fun HT_ HW_ => ?_); generalize w12.drew = w13 at BK101 BK102 BK103 HB hHeld ⊢; refine pX (i := 1) (N := some 13) #[F,T,F,F,F,F,F,F] HT_.out ?_; refine pX (i := 3) (N := some 15) #[F,T,F,T,F,F,F,F] HT_.out ?_; refine tX (i := 0) (N := some 12) #[T,T,F,T,F,F,F,F] HT_.out HW_.out hHeld ?_; refine tX (i := 2) (N := some 14) #[T,T,T,T,F,F,F,F] HT_.out HW_.out hHeld ?_; refine tX (i := 4) (N := some 16) #[T,T,T,T,T,F,F,F] HT_.out HW_.out hHeld ?_; refine pX (i := 5) (N := some 17) #[T,T,T,T,T,T,F,F] HT_.out ?_; refine one_ (i := 6) (N := none) #[T,T,T,T,T,T,T,F] rfl rfl (one_of HT_.out (by kernel_rfl)) (by decide) (fun K hK => ?_); have hs14 : w13.cell? ⟨gb102, 0, none⟩ = some (.int .i32 0) := (blk_cell BK102.out 0).trans rfl; have hfs14 := blk_frozen BK102.out 0; have hns14_0 := NB101_102.out; have hns14_2 := NB103_102.out; have hms14_0 := NB102_101.out; have hms14_2 := NB102_103.out; have hs15 : w13.cell? ⟨gb102, 1, none⟩ = some (.int .i32 0) := (blk_cell BK102.out 1).trans rfl; have hfs15 := blk_frozen BK102.out 1; have hns15_0 := NB101_102.out; have hns15_2 := NB103_102.out; have hms15_0 := NB102_101.out; have hms15_2 := NB102_103.out; refine skip_ (w1 := ?_) (by rfl) rfl ?_ ?_; rotate_left
 ·go_simp; rfl
 refine hK.out _ _ ⟨((cell_far (p := ⟨gb102, _, none⟩) NB103_102.out _).trans (((cell_far (p := ⟨gb102, _, none⟩) NB103_102.out _).trans (hHeld.1)))), ((cell_far (p := ⟨gb102, _, none⟩) NB103_102.out _).trans (((cell_far (p := ⟨gb102, _, none⟩) NB103_102.out _).trans (hHeld.2))))⟩ (fun hHeld => ?_); clear hK K; refine pX (i := 7) (N := some 3) #[T,T,T,T,T,T,T,T] HT_.out ?_; refine done_ (done_of HT_.out (by kernel_rfl)) ?_; try go_wp2
 refine bodyPost_ret (results_ct rfl _ _ gb102 41 #[.int .i32 ji2, .int .i32 ji3] (0, 0) _ rfl (by (with_reducible repeat (first | refine blk_drewN ?_ _ | refine blk_drew ?_ | refine blk_alloc ?_ _)); refine blk_put (cs := #[.int .i32 ji2, .int .i32 0]) ?_ 1 _ rfl; (with_reducible repeat (first | refine blk_drewN ?_ _ | refine blk_drew ?_ | refine blk_alloc ?_ _)); refine blk_put (cs := #[.int .i32 0, .int .i32 0]) ?_ 0 _ rfl; exact bT BK102.out) Try.underlying41 rfl (by kernel_rfl)) rfl ?_; exact ⟨by first | rfl | (simp [errW_none, errW_some] <;> rfl) | (simp only [← hji2, ← hji3]; first | rfl | (simp [errW_none, errW_some] <;> rfl)) | (simp [*, errW_none, errW_some] <;> rfl), by repeat (with_reducible first | exact HB.out | apply below_alloc | apply pw_below_drewN | apply below_drew1 | refine below_set ?_ GE101.out | refine below_set ?_ GE102.out | refine below_set ?_ GE103.out)⟩

/-! ### cmp_isNaN_rune: function 53 -/
def cmp_isNaN_rune.f (a0 : Int) : Option (Bool) := some (a0 != a0)
set_option maxHeartbeats 8000000 in
set_option maxRecDepth 100000 in
theorem cmp_isNaN_rune.calls (a0 : Int) (r : Bool) (w : World) (h : cmp_isNaN_rune.f a0 = some r) :
  Calls Try.prog 53 #[.int .i32 a0] w fun e w' => e = .returned (.bool r) ∧ Drawn0 w w' := by
 have H : (some (a0 != a0)) = some r := h; clear h; obtain rfl := Option.some.inj H; go_enter Try.func53, Try.ntmps53
 go_wp2
 go_ret
 exact ⟨by first | rfl | (simp; done) | (simp [*]; done), by repeat (first | exact Drawn0.refl _ | apply Drawn0.step)⟩

/-! ### cmp_Compare_rune: function 34 -/
def cmp_Compare_rune.f (a0 : Int) (a1 : Int) : Option (Int) := (cmp_isNaN_rune.f a0).bind fun t104 => ((cmp_isNaN_rune.f a1).bind fun t105 => (if t104 = true then (if t105 = true then (some 0) else (some (-1))) else (if t105 = true then (some 1) else (if a0 < a1 then (some (-1)) else (if a0 > a1 then (some 1) else (some 0))))))
set_option maxHeartbeats 8000000 in
set_option maxRecDepth 100000 in
theorem cmp_Compare_rune.calls (a0 : Int) (a1 : Int) (r : Int) (w : World) (h : cmp_Compare_rune.f a0 a1 = some r) :
  Calls Try.prog 34 #[.int .i32 a0, .int .i32 a1] w fun e w' => e = .returned (.int .i64 r) ∧ Drawn0 w w' := by
 have H : ((cmp_isNaN_rune.f a0).bind fun t104 => ((cmp_isNaN_rune.f a1).bind fun t105 => (if t104 = true then (if t105 = true then (some 0) else (some (-1))) else (if t105 = true then (some 1) else (if a0 < a1 then (some (-1)) else (if a0 > a1 then (some 1) else (some 0))))))) = some r := h; clear h; replace H := Option.bind_eq_some_iff.mp H; obtain ⟨t104, A30, H⟩ := H; replace H : ((cmp_isNaN_rune.f a1).bind fun t105 => (if t104 = true then (if t105 = true then (some 0) else (some (-1))) else (if t105 = true then (some 1) else (if a0 < a1 then (some (-1)) else (if a0 > a1 then (some 1) else (some 0)))))) = some r := H; have A3 := aM A30; clear A30; replace H := Option.bind_eq_some_iff.mp H; obtain ⟨t105, A40, H⟩ := H; replace H : (if t104 = true then (if t105 = true then (some 0) else (some (-1))) else (if t105 = true then (some 1) else (if a0 < a1 then (some (-1)) else (if a0 > a1 then (some 1) else (some 0))))) = some r := H; have A4 := aM A40; clear A40
 by_cases c5 : t104 = true
 ·subst c5; have H1 : (if t105 = true then (some 0) else (some (-1))) = some r := by rw [if_pos rfl] at H; exact H
  clear H; have H := H1; clear H1
  by_cases c6 : t105 = true
  ·subst c6; have H1 : (some 0) = some r := by rw [if_pos rfl] at H; exact H
   clear H; have H := H1; clear H1; obtain rfl := Option.some.inj H; go_enter Try.func34, Try.ntmps34
   go_wp2_with (first | ((with_reducible refine gate_callee (f := 53) rfl ?_); refine goesL_ (some 8) rfl rfl Try.func53 (by kernel_rfl) rfl #[.int .i32 a0] rfl mT ?_; (with_reducible refine (cmp_isNaN_rune.calls a0 true _ A3.out).mono ?_); rintro e w' ⟨rfl, ⟨nd, rfl⟩⟩; refine ⟨_, rfl, ?_⟩) | ((with_reducible refine gate_callee (f := 53) rfl ?_); refine goesL_ (some 10) rfl rfl Try.func53 (by kernel_rfl) rfl #[.int .i32 a1] rfl mT ?_; (with_reducible refine (cmp_isNaN_rune.calls a1 true _ A4.out).mono ?_); rintro e w' ⟨rfl, ⟨nd, rfl⟩⟩; refine ⟨_, rfl, ?_⟩))
   go_ret
   exact ⟨by first | rfl | (simp; done) | (simp [*]; done), by repeat (first | exact Drawn0.refl _ | apply Drawn0.step)⟩
  ·replace c6 := Bool.eq_false_iff.mpr c6; subst c6; have H1 : (some (-1)) = some r := by rw [if_neg (show ¬ (false = true) by decide)] at H; exact H
   clear H; have H := H1; clear H1; obtain rfl := Option.some.inj H; go_enter Try.func34, Try.ntmps34
   go_wp2_with (first | ((with_reducible refine gate_callee (f := 53) rfl ?_); refine goesL_ (some 8) rfl rfl Try.func53 (by kernel_rfl) rfl #[.int .i32 a0] rfl mT ?_; (with_reducible refine (cmp_isNaN_rune.calls a0 true _ A3.out).mono ?_); rintro e w' ⟨rfl, ⟨nd, rfl⟩⟩; refine ⟨_, rfl, ?_⟩) | ((with_reducible refine gate_callee (f := 53) rfl ?_); refine goesL_ (some 10) rfl rfl Try.func53 (by kernel_rfl) rfl #[.int .i32 a1] rfl mT ?_; (with_reducible refine (cmp_isNaN_rune.calls a1 false _ A4.out).mono ?_); rintro e w' ⟨rfl, ⟨nd, rfl⟩⟩; refine ⟨_, rfl, ?_⟩))
   go_ret
   exact ⟨by first | rfl | (simp; done) | (simp [*]; done), by repeat (first | exact Drawn0.refl _ | apply Drawn0.step)⟩
 ·replace c5 := Bool.eq_false_iff.mpr c5; subst c5; have H1 : (if t105 = true then (some 1) else (if a0 < a1 then (some (-1)) else (if a0 > a1 then (some 1) else (some 0)))) = some r := by rw [if_neg (show ¬ (false = true) by decide)] at H; exact H
  clear H; have H := H1; clear H1
  by_cases c7 : t105 = true
  ·subst c7; have H1 : (some 1) = some r := by rw [if_pos rfl] at H; exact H
   clear H; have H := H1; clear H1; obtain rfl := Option.some.inj H; go_enter Try.func34, Try.ntmps34
   go_wp2_with (first | ((with_reducible refine gate_callee (f := 53) rfl ?_); refine goesL_ (some 8) rfl rfl Try.func53 (by kernel_rfl) rfl #[.int .i32 a0] rfl mT ?_; (with_reducible refine (cmp_isNaN_rune.calls a0 false _ A3.out).mono ?_); rintro e w' ⟨rfl, ⟨nd, rfl⟩⟩; refine ⟨_, rfl, ?_⟩) | ((with_reducible refine gate_callee (f := 53) rfl ?_); refine goesL_ (some 10) rfl rfl Try.func53 (by kernel_rfl) rfl #[.int .i32 a1] rfl mT ?_; (with_reducible refine (cmp_isNaN_rune.calls a1 true _ A4.out).mono ?_); rintro e w' ⟨rfl, ⟨nd, rfl⟩⟩; refine ⟨_, rfl, ?_⟩))
   go_ret
   exact ⟨by first | rfl | (simp; done) | (simp [*]; done), by repeat (first | exact Drawn0.refl _ | apply Drawn0.step)⟩
  ·replace c7 := Bool.eq_false_iff.mpr c7; subst c7; have H1 : (if a0 < a1 then (some (-1)) else (if a0 > a1 then (some 1) else (some 0))) = some r := by rw [if_neg (show ¬ (false = true) by decide)] at H; exact H
   clear H; have H := H1; clear H1
   by_cases c8 : a0 < a1
   ·rw [if_pos c8] at H; have c8b0 : decide (a0 < a1) = true := decide_eq_true c8; clear c8; obtain rfl := Option.some.inj H; go_enter Try.func34, Try.ntmps34
    go_wp2_with (first | ((with_reducible refine gate_callee (f := 53) rfl ?_); refine goesL_ (some 8) rfl rfl Try.func53 (by kernel_rfl) rfl #[.int .i32 a0] rfl mT ?_; (with_reducible refine (cmp_isNaN_rune.calls a0 false _ A3.out).mono ?_); rintro e w' ⟨rfl, ⟨nd, rfl⟩⟩; refine ⟨_, rfl, ?_⟩) | ((with_reducible refine gate_callee (f := 53) rfl ?_); refine goesL_ (some 10) rfl rfl Try.func53 (by kernel_rfl) rfl #[.int .i32 a1] rfl mT ?_; (with_reducible refine (cmp_isNaN_rune.calls a1 false _ A4.out).mono ?_); rintro e w' ⟨rfl, ⟨nd, rfl⟩⟩; refine ⟨_, rfl, ?_⟩))
    go_ret
    exact ⟨by first | rfl | (simp; done) | (simp [*]; done), by repeat (first | exact Drawn0.refl _ | apply Drawn0.step)⟩
   ·rw [if_neg c8] at H; have c8b0 : decide (a0 < a1) = false := decide_eq_false c8; clear c8
    by_cases c9 : a0 > a1
    ·rw [if_pos c9] at H; have c9b0 : decide (a1 < a0) = true := decide_eq_true c9; clear c9; obtain rfl := Option.some.inj H; go_enter Try.func34, Try.ntmps34
     go_wp2_with (first | ((with_reducible refine gate_callee (f := 53) rfl ?_); refine goesL_ (some 8) rfl rfl Try.func53 (by kernel_rfl) rfl #[.int .i32 a0] rfl mT ?_; (with_reducible refine (cmp_isNaN_rune.calls a0 false _ A3.out).mono ?_); rintro e w' ⟨rfl, ⟨nd, rfl⟩⟩; refine ⟨_, rfl, ?_⟩) | ((with_reducible refine gate_callee (f := 53) rfl ?_); refine goesL_ (some 10) rfl rfl Try.func53 (by kernel_rfl) rfl #[.int .i32 a1] rfl mT ?_; (with_reducible refine (cmp_isNaN_rune.calls a1 false _ A4.out).mono ?_); rintro e w' ⟨rfl, ⟨nd, rfl⟩⟩; refine ⟨_, rfl, ?_⟩))
     go_ret
     exact ⟨by first | rfl | (simp; done) | (simp [*]; done), by repeat (first | exact Drawn0.refl _ | apply Drawn0.step)⟩
    ·rw [if_neg c9] at H; have c9b0 : decide (a1 < a0) = false := decide_eq_false c9; clear c9; obtain rfl := Option.some.inj H; go_enter Try.func34, Try.ntmps34
     go_wp2_with (first | ((with_reducible refine gate_callee (f := 53) rfl ?_); refine goesL_ (some 8) rfl rfl Try.func53 (by kernel_rfl) rfl #[.int .i32 a0] rfl mT ?_; (with_reducible refine (cmp_isNaN_rune.calls a0 false _ A3.out).mono ?_); rintro e w' ⟨rfl, ⟨nd, rfl⟩⟩; refine ⟨_, rfl, ?_⟩) | ((with_reducible refine gate_callee (f := 53) rfl ?_); refine goesL_ (some 10) rfl rfl Try.func53 (by kernel_rfl) rfl #[.int .i32 a1] rfl mT ?_; (with_reducible refine (cmp_isNaN_rune.calls a1 false _ A4.out).mono ?_); rintro e w' ⟨rfl, ⟨nd, rfl⟩⟩; refine ⟨_, rfl, ?_⟩))
     go_ret
     exact ⟨by first | rfl | (simp; done) | (simp [*]; done), by repeat (first | exact Drawn0.refl _ | apply Drawn0.step)⟩

/-! ### api_Range_32: function 32 -/
/-- cmp.Compare at the first ends. -/
def cmpLo (x y : S41) : Int := if x.f0 < y.f0 then -1 else if x.f0 > y.f0 then 1 else 0
theorem cmpLo_f (x y : S41) : cmp_Compare_rune.f x.f0 y.f0 = some (cmpLo x y) := by
  unfold cmp_Compare_rune.f cmp_isNaN_rune.f cmpLo
  simp only [Option.bind_some, bne_self_eq_false, Bool.false_eq_true, if_false]
  split
  · rfl
  · split <;> rfl
theorem ltLo (x y : S41) : Go.Proofs.ltOf cmpLo x y = decide (x.f0 < y.f0) := by
  unfold Go.Proofs.ltOf cmpLo
  by_cases h1 : x.f0 < y.f0
  · simp [h1]
  · by_cases h2 : x.f0 > y.f0 <;> simp [h1, h2]
instance : Inhabited S41 := ⟨⟨0, 0⟩⟩
theorem swoLo : Go.Sort.SWO (Go.Proofs.ltOf cmpLo) where
  irrefl x := by rw [ltLo]; simp
  trans x y z h1 h2 := by rw [ltLo] at *; simp at *; omega
  ntrans x y z h1 h2 := by rw [ltLo] at *; simp at *; omega
/-- A range's two cells. -/
def enc41 (x : S41) : List Value := [.int .i32 x.f0, .int .i32 x.f1]
set_option maxHeartbeats 1000000 in
/-- The closure of Of. -/
theorem closure33 (x y : S41) (W : World) : Calls Try.prog 33 #[.agg #[.int .i32 x.f0, .int .i32 x.f1], .agg #[.int .i32 y.f0, .int .i32 y.f1]] W fun e w' => e = .returned (.int .i64 (cmpLo x y)) ∧ ∃ q os', w' = Go.Sort.grow (W.drewN q) os' := by
  have hcon := fun W' => cmp_Compare_rune.calls x.f0 y.f0 (cmpLo x y) W' (cmpLo_f x y)
  generalize cmpLo x y = r at hcon ⊢
  go_enter Try.func33, Try.ntmps33
  go_wp2_with (go_at_call 34; refine (hcon _).mono ?_; rintro e w' ⟨rfl, ⟨m, rfl⟩⟩)
  go_ret
  exact ⟨rfl, m, _, by rw [Go.Sort.alloc_eq_grow, Go.Sort.alloc_eq_grow, Go.Sort.grow_grow]; rfl⟩
/-! the world behind a sort of the library: the row's cells turned, blocks laid, draws taken -/
theorem heap_row {w : World} {g m : Nat} {os : Array Obj} {cur : Array Value} {e : TypeId} {fr : Nat × Nat} {α : Type} [Inhabited α] (enc : α → Value) (F : Array α) (hb : w.heap[g]? = some (.cells cur e fr)) :
    (Go.Sort.grow (Go.Sort.putRow enc (Go.Sort.ahead w m) g 0 F) os).heap[g]? = some (.cells (Go.Sort.putCells enc 0 F cur) e fr) := by
  have hg : g < w.heap.size := (Array.getElem?_eq_some_iff.1 hb).1
  rw [Go.Sort.heap_grow_old _ _ (by simpa using hg)]
  simp [Go.Sort.putRow, Go.Sort.mapBlock, Go.Sort.ahead, Array.getElem?_modify, hb, Go.Sort.onCells]
theorem grown_row {w : World} {g m : Nat} {os : Array Obj} {α : Type} [Inhabited α] (enc : α → Value) (F : Array α) : w.grownBy (Go.Sort.grow (Go.Sort.putRow enc (Go.Sort.ahead w m) g 0 F) os) (some g) := by
  refine ⟨rfl, rfl, rfl, by simp, fun k hk hne => ?_⟩
  rw [Go.Sort.heap_grow_old _ _ (by simpa using hk)]
  have : g ≠ k := fun e => hne (by rw [e])
  simp [Go.Sort.putRow, Go.Sort.mapBlock, Go.Sort.ahead, Array.getElem?_modify, this]
theorem take_row {α : Type} [Inhabited α] (enc : α → Value) (cur : Array Value) (F : Array α) (h : F.size ≤ cur.size) : (Go.Sort.putCells enc 0 F cur).toList.take F.size = F.toList.map enc := by
  apply List.ext_getElem?
  intro j
  by_cases hj : j < F.size
  · rw [List.getElem?_take_of_lt hj, Array.getElem?_toList]
    simp [Go.Sort.putCells, hj, show j < cur.size by omega]
  · rw [List.getElem?_take_eq_none (by omega), List.getElem?_eq_none (by simp; omega)]
/-- An own row of ranges, its cells. -/
theorem own41 {w : World} {base g cap : Nat} {n : Nat} {P : Nat → Prop} {l : List S41} {cur : Array Value} (hb : w.heap[g]? = some (.cells cur 41 (0, 0))) (inner : List Value) (ht : cur.toList.take (l.length * 2) = inner) (hr : Reps (k41.M w base P) 2 l inner) :
    Go.Sort.HoldsK enc41 2 w g 0 l.toArray := by
  intro t ht'
  rw [Go.Sort.size_flatK] at ht'
  have hlt : t < l.length * 2 := by simpa using ht'
  refine ⟨?_, by simp [World.frozen?, hb]⟩
  have hj : t / 2 < l.length := by omega
  have h1 := hr.2 (t / 2) l[t / 2] (List.getElem?_eq_getElem hj)
  have h2 := k41_openM h1
  have h3 : cur[t]? = (enc41 l[t / 2])[t % 2]? := by
    have h4 : ((inner.drop (t / 2 * 2)).take 2)[t % 2]? = (enc41 l[t / 2])[t % 2]? := by rw [h2]; rfl
    rw [List.getElem?_take_of_lt (by omega), List.getElem?_drop, show t / 2 * 2 + t % 2 = t by omega, ← ht, List.getElem?_take_of_lt hlt, Array.getElem?_toList] at h4
    exact h4
  have h5 : (enc41 l[t / 2])[t % 2]? = some (enc41 l[t / 2])[t % 2]! := by
    rcases Nat.mod_two_eq_zero_or_one t with h | h <;> rw [h] <;> rfl
  rw [Go.Sort.get_flatK _ _ _ _ ht']
  simp only [World.cell?, hb, Nat.zero_add, Option.isSome_none, Bool.false_eq_true, if_false]
  rw [h3, h5]
  simp [id, hj]
theorem reps41 (w : World) (base : Nat) (P : Nat → Prop) (r : List S41) : Reps (k41.M w base P) 2 r (Go.Sort.flatK enc41 2 r.toArray).toList := by
  refine ⟨by simp, fun j p hp => ?_⟩
  obtain ⟨hj, rfl⟩ := List.getElem?_eq_some_iff.1 hp
  have key : ((Go.Sort.flatK enc41 2 r.toArray).toList.drop (j * 2)).take 2 = [.int .i32 r[j].f0, .int .i32 r[j].f1] := by
    apply List.ext_getElem?
    intro c
    by_cases hc : c < 2
    · rw [List.getElem?_take_of_lt hc, List.getElem?_drop, Array.getElem?_toList]
      have hlt : j * 2 + c < r.toArray.size * 2 := by simp; omega
      rw [Array.getElem?_eq_getElem (by simp; omega), ← getElem!_pos _ _ (by simp; omega), Go.Sort.get_flatK _ _ _ _ hlt, show (j * 2 + c) / 2 = j by omega, show (j * 2 + c) % 2 = c by omega]
      have : r.toArray[j]! = r[j] := by simp [hj]
      rw [this]
      rcases (show c = 0 ∨ c = 1 by omega) with rfl | rfl <;> rfl
    · rw [List.getElem?_take_eq_none (by omega), List.getElem?_eq_none (by simp; omega)]
  rw [key]
  exact k41_mkM w base P r[j]
/-! what the sort makes of a list: where no two begin alike there is one answer -/
def distinctLo : List S41 → Bool
  | [] => true
  | x :: r => r.all (fun y => x.f0 != y.f0) && distinctLo r
def insLo (x : S41) : List S41 → List S41
  | [] => [x]
  | y :: r => if x.f0 ≤ y.f0 then x :: y :: r else y :: insLo x r
def sortLo : List S41 → List S41
  | [] => []
  | x :: r => insLo x (sortLo r)
def pdqLo (l : List S41) : List S41 := (Go.Sort.pdq (Go.Proofs.ltOf cmpLo) l.toArray 0 l.toArray.size (Lib.bitLen l.toArray.size) true true).toList
theorem insLo_perm (x : S41) : ∀ l, (insLo x l).Perm (x :: l)
  | [] => .refl _
  | y :: r => by
    unfold insLo
    split
    · exact .refl _
    · exact ((insLo_perm x r).cons y).trans (.swap x y r)
theorem sortLo_perm : ∀ l, (sortLo l).Perm l
  | [] => .refl _
  | x :: r => (insLo_perm x _).trans ((sortLo_perm r).cons x)
theorem insLo_pair (x : S41) : ∀ l, l.Pairwise (fun a b : S41 => a.f0 ≤ b.f0) → (insLo x l).Pairwise (fun a b : S41 => a.f0 ≤ b.f0)
  | [], _ => by simp [insLo]
  | y :: r, h => by
    unfold insLo
    rw [List.pairwise_cons] at h
    split
    · rename_i hxy
      rw [List.pairwise_cons]
      refine ⟨fun z hz => ?_, List.pairwise_cons.2 h⟩
      rcases List.mem_cons.1 hz with rfl | hz
      · exact hxy
      · exact Int.le_trans hxy (h.1 z hz)
    · rename_i hxy
      rw [List.pairwise_cons]
      refine ⟨fun z hz => ?_, insLo_pair x r h.2⟩
      rcases List.mem_cons.1 ((insLo_perm x r).mem_iff.1 hz) with rfl | hz
      · omega
      · exact h.1 z hz
theorem sortLo_pair : ∀ l, (sortLo l).Pairwise (fun a b : S41 => a.f0 ≤ b.f0)
  | [] => .nil
  | x :: r => insLo_pair x _ (sortLo_pair r)
theorem pdqLo_sorts (l : List S41) : (pdqLo l).Perm l ∧ (pdqLo l).Pairwise (fun a b : S41 => a.f0 ≤ b.f0) := by
  have h := Go.Sort.pdq_sorts (Go.Proofs.ltOf cmpLo) swoLo l.toArray 0 l.toArray.size (Lib.bitLen l.toArray.size) true true (Nat.zero_le _) (Nat.le_refl _) (Or.inl rfl)
  unfold pdqLo
  revert h
  generalize Go.Sort.pdq (Go.Proofs.ltOf cmpLo) l.toArray 0 l.toArray.size (Lib.bitLen l.toArray.size) true true = d
  rintro ⟨⟨hs, _, hp⟩, ho⟩
  refine ⟨?_, ?_⟩
  · have e1 : d.extract 0 l.toArray.size = d := by rw [← hs]; simp
    have e2 : l.toArray.extract 0 l.toArray.size = l.toArray := by simp
    rw [e1, e2] at hp
    exact hp
  · rw [List.pairwise_iff_getElem]
    intro i j hi hj hij
    have h := ho i j (Nat.zero_le _) hij (by rw [← hs]; simpa using hj)
    rw [ltLo, decide_eq_false_iff_not, getElem!_pos d j (by simpa using hj), getElem!_pos d i (by simpa using hi)] at h
    simp only [Array.getElem_toList]
    omega
theorem distinctLo_inj : ∀ (l : List S41), distinctLo l = true → ∀ a ∈ l, ∀ b ∈ l, a.f0 = b.f0 → a = b
  | [], _, a, ha, _, _, _ => absurd ha (by simp)
  | x :: r, h, a, ha, b, hb, e => by
    simp only [distinctLo, Bool.and_eq_true, List.all_eq_true, bne_iff_ne] at h
    rcases List.mem_cons.1 ha with ha' | ha' <;> rcases List.mem_cons.1 hb with hb' | hb'
    · rw [ha', hb']
    · rw [ha'] at e; exact absurd e (h.1 b hb')
    · rw [hb'] at e; exact absurd e.symm (h.1 a ha')
    · exact distinctLo_inj r h.2 a ha' b hb' e
def sortR (l : List S41) : List S41 := if distinctLo l = true then sortLo l else pdqLo l
theorem sortR_pdq (l : List S41) : sortR l = pdqLo l := by
  unfold sortR
  split
  · rename_i h
    have hp := pdqLo_sorts l
    refine List.Perm.eq_of_pairwise (le := fun a b : S41 => a.f0 ≤ b.f0) (fun a b ha hb h1 h2 => ?_) (sortLo_pair l) hp.2 ((sortLo_perm l).trans hp.1.symm)
    exact distinctLo_inj l h a ((sortLo_perm l).mem_iff.1 ha) b (hp.1.mem_iff.1 hb) (by omega)
  · rfl
theorem sortR_sorts (l : List S41) : (sortR l).Perm l ∧ (sortR l).Pairwise (fun a b : S41 => a.f0 ≤ b.f0) := by
  rw [sortR_pdq]; exact pdqLo_sorts l
def api_Range_32.f (l0 : List S41) : Option (List S41) := if l0.length < 4611686018427387904 then some (sortR l0) else none
theorem api_Range_32.calls (P0_ : Nat → Prop) (u9000_ : Value) (l0 : List (S41)) (r : List (S41)) (w0 w : World) (hB : Below w0.heap.size w0 w) (ho0 : Kd.R k41 41 w w0.heap.size P0_ u9000_ l0) (h : api_Range_32.f l0 = some r) :
    Calls Try.prog 32 #[u9000_, .func (.func 33) #[] #[]] w fun e w' => e = .returned (.tuple #[]) ∧ Kd.R k41 41 w' w0.heap.size (fun k_ => (P0_ k_ ∨ w.heap.size ≤ k_)) u9000_ r ∧ Below w0.heap.size w0 w' ∧ Kept w w' (fun k_ => P0_ k_) := by
  unfold api_Range_32.f at h
  split at h
  case isFalse => cases h
  rename_i hml
  obtain rfl := Option.some.inj h
  clear h
  obtain ⟨hok, inner, ho, hr⟩ := id ho0
  rcases ho.2 with ⟨rfl, hn⟩ | ⟨g, cap, cur, rfl, hg, hb, h1, h2, h3, h4⟩
  · obtain rfl : l0 = [] := List.length_eq_zero_iff.1 hn
    refine (Go.Proofs.AnyF.slices_SortFunc_none Try.sortRg none 0 _ w).mono ?_
    rintro e w' ⟨rfl, rfl⟩
    exact ⟨rfl, Kd.R_mono ho0 (fun _ hk => .inl hk), hB, Kept.refl _ _⟩
  · have hlt : g < w.heap.size := (Array.getElem?_eq_some_iff.1 hb).1
    have hH : Go.Sort.HoldsK enc41 2 w g 0 l0.toArray := own41 (n := 0) (cap := cap) hb inner h4 hr
    have eg : ∀ args w, (callFunc 33 args).run Try.prog w = .ok (.enter 33 args) w := enters_of Try.func33 (by kernel_rfl) rfl
    have hcon := Go.Proofs.AnyQ.slices_SortFunc_eq Try.sortRg 2 Try.isAgg41 Try.sizeOf41 enc41 (fun _ => rfl) (fun x v hv => by simp [enc41] at hv; rcases hv with rfl | rfl <;> rfl) cmpLo swoLo 33 #[] g 0 cap l0.toArray w eg (fun _ _ _ _ x y => closure33 x y _) hH hlt (by simpa using hml)
    refine Calls.mono hcon ?_
    rintro e w' ⟨rfl, m, os, rfl⟩
    have hR : Go.Sort.pdq (Go.Proofs.ltOf cmpLo) l0.toArray 0 l0.toArray.size (Lib.bitLen l0.toArray.size) true true = (sortR l0).toArray := by rw [sortR_pdq]; simp [pdqLo]
    rw [hR]
    have hlen : (sortR l0).length = l0.length := (sortR_sorts l0).1.length_eq
    have hgr := grown_row (w := w) (g := g) (m := m) (os := os) id (Go.Sort.flatK enc41 2 (sortR l0).toArray)
    have hbk := heap_row (m := m) (os := os) id (Go.Sort.flatK enc41 2 (sortR l0).toArray) hb
    refine ⟨rfl, ⟨fun k hk => .inl (hok k hk), (Go.Sort.flatK enc41 2 (sortR l0).toArray).toList, ⟨by simp [hlen]; rfl, .inr ⟨g, cap, _, by rw [hlen], hg, hbk, by omega, h2, by simp [Go.Sort.putCells, h3], ?_⟩⟩, reps41 _ _ _ _⟩, ?_, ?_⟩
    · have hsz : (Go.Sort.flatK enc41 2 (sortR l0).toArray).size = (sortR l0).length * 2 := by simp
      rw [show (sortR l0).length * k41.sz = (Go.Sort.flatK enc41 2 (sortR l0).toArray).size from hsz.symm, take_row id cur _ (by rw [hsz, hlen, h3]; exact Nat.mul_le_mul_right _ h1)]
      simp
    · exact hB.grown hgr hB.size (fun k hk => by injection hk with hk; omega)
    · exact Kept.of_grown hgr (Kept.refl _ _) (fun k hk => .inl (by injection hk with hk; subst hk; exact hok g rfl))


end Go.Proofs.Ytomccgpachmpbaa.PB
