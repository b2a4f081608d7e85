-- WRITTEN BY pp.py out of the translation; Lean checks it.
import Derived.Test.YtomccgpachmpbaaPAx0
import Derived.Test.YtomccgpachmpbaaPAx9
namespace Go.Proofs.Ytomccgpachmpbaa.PA
open Go.RowKit Go.Proofs.YtomccgpachmpbaaW.PrintWords Go.Proofs.YtomccgpachmpbaaW.PrintLast Go.Proofs.YtomccgpachmpbaaW.PrintMore
attribute [local go_sem] max2_int min2_int max_two min_two max_three min_three max_four min_four   -- for this text's walks alone
set_option linter.unusedVariables false
set_option linter.unusedSimpArgs false

/-! ### arboristref03_both: function 35 -/
mutual
def arboristref03_both.l0 : Nat → List (S41) → List (S41) → Int → List Int → List (S41) → Int → Option ((List (S41)))
 | 0, _, _, _, _, _, _ => none
 | k + 1, x0, x1, x2, x7, x8, x9 => if x9 < (x7.length : Int) then (if (wrap64 (x9 + 1)) < (x7.length : Int) then (if 0 ≤ (wrap64 (x9 + 1)) then (arboristref03_both.j1 k x0 x1 x2 x7 x8 x9 (wrap32 ((rd x7 (wrap64 (x9 + 1))) - 1))) else (none)) else (arboristref03_both.j1 k x0 x1 x2 x7 x8 x9 1114111)) else (some x8)
def arboristref03_both.j1 : Nat → List (S41) → List (S41) → Int → List Int → List (S41) → Int → Int → Option ((List (S41)))
 | 0, _, _, _, _, _, _, _ => none
 | k + 1, x0, x1, x2, x7, x8, x9, x10 => if 0 ≤ x9 then (if x9 < (x7.length : Int) then ((arboristref03_Has.f k x0 (rd x7 x9)).bind fun t325 => ((arboristref03_Has.f k x1 (rd x7 x9)).bind fun t327 => (if x2 = 1 then (if t325 = true then ((arboristref03_join.f x8 (rd x7 x9) x10).bind fun t329 => (arboristref03_both.l0 k x0 x1 x2 x7 t329 (wrap64 (x9 + 1)))) else (if t327 = true then ((arboristref03_join.f x8 (rd x7 x9) x10).bind fun t333 => (arboristref03_both.l0 k x0 x1 x2 x7 t333 (wrap64 (x9 + 1)))) else (if x2 = 2 then (if x2 = 3 then (arboristref03_both.l0 k x0 x1 x2 x7 x8 (wrap64 (x9 + 1))) else (arboristref03_both.l0 k x0 x1 x2 x7 x8 (wrap64 (x9 + 1)))) else (if x2 = 3 then (arboristref03_both.l0 k x0 x1 x2 x7 x8 (wrap64 (x9 + 1))) else (arboristref03_both.l0 k x0 x1 x2 x7 x8 (wrap64 (x9 + 1))))))) else (if x2 = 2 then (if t325 = true then (if t327 = true then ((arboristref03_join.f x8 (rd x7 x9) x10).bind fun t337 => (arboristref03_both.l0 k x0 x1 x2 x7 t337 (wrap64 (x9 + 1)))) else (if x2 = 3 then ((arboristref03_join.f x8 (rd x7 x9) x10).bind fun t341 => (arboristref03_both.l0 k x0 x1 x2 x7 t341 (wrap64 (x9 + 1)))) else (arboristref03_both.l0 k x0 x1 x2 x7 x8 (wrap64 (x9 + 1))))) else (if x2 = 3 then (arboristref03_both.l0 k x0 x1 x2 x7 x8 (wrap64 (x9 + 1))) else (arboristref03_both.l0 k x0 x1 x2 x7 x8 (wrap64 (x9 + 1))))) else (if x2 = 3 then (if t325 = true then (if t327 = true then (arboristref03_both.l0 k x0 x1 x2 x7 x8 (wrap64 (x9 + 1))) else ((arboristref03_join.f x8 (rd x7 x9) x10).bind fun t345 => (arboristref03_both.l0 k x0 x1 x2 x7 t345 (wrap64 (x9 + 1))))) else (arboristref03_both.l0 k x0 x1 x2 x7 x8 (wrap64 (x9 + 1)))) else (arboristref03_both.l0 k x0 x1 x2 x7 x8 (wrap64 (x9 + 1)))))))) else (none)) else (none)
end
def arboristref03_both.f (k : Nat) (l0 : List (S41)) (l1 : List (S41)) (a2 : Int) : Option ((List (S41))) := (arboristref03_ends.f k (([l0, l1] : List (List (S41))))).bind fun t317 => (arboristref03_both.l0 k l0 l1 a2 t317 (([] : List (S41))) 0)
def arboristref03_both.T9 : Bool × List (List Nat × List Nat) := (true, [([], []), ([], []), ([], []), ([1, 2], [1, 2]), ([3], [3]), ([0, 4], [0, 4]), ([], []), ([], []), ([], []), ([7, 8], [7, 8]), ([9], [9]), ([6, 10, 5], [6, 10]), ([5, 11, 0, 1, 2, 3, 4, 5], [5]), ([11, 12, 0, 1, 2, 3, 4, 5, 6, 7, 8, 9, 10, 11, 12], [11])])
def arboristref03_both.B9 : List Nat := [0, 0, 0, 6, 14, 31, 0, 0, 0, 384, 896, 2047, 4095, 8191]
theorem arboristref03_both.tab9 : rtab .any (opsOf Try.f35 9) = arboristref03_both.T9 := by kernel_rfl
theorem arboristref03_both.bits9 : waitsOk arboristref03_both.T9.2 arboristref03_both.B9 = true := by kernel_rfl
set_option maxHeartbeats 8000000 in
set_option maxRecDepth 100000 in
theorem arboristref03_both.calls (k : Nat) (P0_ : Nat → Prop) (A0 : Option Addr) (c0 : Nat) (l0 : List (S41)) (P1_ : Nat → Prop) (A1 : Option Addr) (c1 : Nat) (l1 : List (S41)) (a2 : Int) (r : List (S41)) (w : World) (hs0 : Kd.V k41 41 w w.heap.size (fun k_ => P0_ k_) (.slice A0 l0.length c0) l0) (hs1 : Kd.V k41 41 w w.heap.size (fun k_ => P1_ k_) (.slice A1 l1.length c1) l1) (h : arboristref03_both.f k l0 l1 a2 = some r) :
  Calls Try.prog 35 #[.slice A0 l0.length c0, .slice A1 l1.length c1, .int .i64 a2] w fun e w' => ∃ v0_ : Value, e = .returned (v0_) ∧ Kd.R k41 41 w' w.heap.size (fun k_ => (w.heap.size ≤ k_)) v0_ r ∧ Below w.heap.size w w' := by
 have HO0 := aM (show Kd.V k41 41 w w.heap.size (fun k_ => ((P0_ k_ ∨ P1_ k_) ∨ w.heap.size ≤ k_)) (.slice A0 l0.length c0) l0 from Kd.V_mono hs0 (fun k_ hk => .inl (.inl hk))); have HO1 := aM (show Kd.V k41 41 w w.heap.size (fun k_ => ((P0_ k_ ∨ P1_ k_) ∨ w.heap.size ≤ k_)) (.slice A1 l1.length c1) l1 from Kd.V_mono hs1 (fun k_ hk => .inl (.inr hk))); have HB := aM (Below.refl w.heap.size w); have H : ((arboristref03_ends.f k (([l0, l1] : List (List (S41))))).bind fun t317 => (arboristref03_both.l0 k l0 l1 a2 t317 (([] : List (S41))) 0)) = some r := h; clear h; obtain ⟨y314, hy314⟩ : ∃ y_ : List (List (S41)), y_ = (([l0, l1] : List (List (S41)))) := ⟨_, rfl⟩; replace H : ((arboristref03_ends.f k y314).bind fun t317 => (arboristref03_both.l0 k l0 l1 a2 t317 (([] : List (S41))) 0)) = some r := by first | (rw [hy314]; with_reducible exact H) | (have H2_ := (Option.bind_some _ _).symm.trans H; rw [hy314]; with_reducible exact H2_) | (have H2_ := (Option.bind_some _ _).symm.trans H; with_reducible exact H2_) | with_reducible exact H | (rw [hy314]; exact H) | exact H
 have Ny314 := aM hy314; clear hy314; replace H := Option.bind_eq_some_iff.mp H; obtain ⟨t317, A40, H⟩ := H; replace H : (arboristref03_both.l0 k l0 l1 a2 t317 (([] : List (S41))) 0) = some r := H; have A4 := aM A40; clear A40; obtain ⟨y320, hy320⟩ : ∃ y_ : List (S41), y_ = (([] : List (S41))) := ⟨_, rfl⟩; replace H : (arboristref03_both.l0 k l0 l1 a2 t317 y320 0) = some r := by first | (rw [hy320]; with_reducible exact H) | (have H2_ := (Option.bind_some _ _).symm.trans H; rw [hy320]; with_reducible exact H2_) | (have H2_ := (Option.bind_some _ _).symm.trans H; with_reducible exact H2_) | with_reducible exact H | (rw [hy320]; exact H) | exact H
 have Ny320 := aM hy320; clear hy320; have H' := aM H; clear H; go_enter Try.func35, Try.ntmps35
 go_wp2_with (first | ((with_reducible refine gate_dst (N := 15) rfl ?_); refine Kd.N_lit (Kd.slice 41 k41) _ 24 ?hg (N' := 15) ?hd (xs := ([l0, l1] : List (List (S41)))) (inner := [.slice A0 l0.length c0, .slice A1 l1.length c1]) (ok := (fun k_ => ((P0_ k_ ∨ P1_ k_) ∨ w.heap.size ≤ k_))) (okp := (fun k_ => ((P0_ k_ ∨ P1_ k_) ∨ w.heap.size ≤ k_))) ?hr ?hp (fun _ hk => hk) ((show ∀ k_, w.heap.size ≤ k_ → (fun k_ => ((P0_ k_ ∨ P1_ k_) ∨ w.heap.size ≤ k_)) k_ from fun k_ hk => (.inr (Nat.le_trans (below_size (hB_t HB.out)) hk))) _ (Nat.le_refl _)) (Below.refl _ _) (Nat.le_refl _) (by simp) ?_; (case hd => rfl); (case hg => rfl); (case hr => first | (go_simp; done) | (go_simp; rfl)); (case hp => exact (Reps.one (show Kd.FK (Kd.slice 41 k41) _ _ l0 [.slice A0 l0.length c0] from (Kd.FK_slice_mk (Kd.V_reads' (Kd.V_mono (ok' := (fun k_ => ((P0_ k_ ∨ P1_ k_) ∨ w.heap.size ≤ k_))) (HO0.out) (fun k_ hk => hk))).2.1 (Kd.V_F (Kd.V_mono (ok' := (fun k_ => ((P0_ k_ ∨ P1_ k_) ∨ w.heap.size ≤ k_))) (HO0.out) (fun k_ hk => hk))))) (Reps.one (show Kd.FK (Kd.slice 41 k41) _ _ l1 [.slice A1 l1.length c1] from (Kd.FK_slice_mk (Kd.V_reads' (Kd.V_mono (ok' := (fun k_ => ((P0_ k_ ∨ P1_ k_) ∨ w.heap.size ≤ k_))) (HO1.out) (fun k_ hk => hk))).2.1 (Kd.V_F (Kd.V_mono (ok' := (fun k_ => ((P0_ k_ ∨ P1_ k_) ∨ w.heap.size ≤ k_))) (HO1.out) (fun k_ hk => hk))))) (Reps.none _ _)))); intro v315 w5 ho6 hb hg_ hnew_; clear hg_ hnew_; (first | rw [← Ny314.out] at ho6 | (simp only [Int.reduceToNat] at ho6; rw [← Ny314.out] at ho6)); have n0_ := aM (Kd.V_elder' (Kd.V_t HO0.out) (by first | exact Kd.N_base ho6 | exact Kd.R_base ho6 | exact Kd.S_base ho6 | exact Kd.Q_base ho6) hb); have n1_ := aM (Kd.V_elder' (Kd.V_t HO1.out) (by first | exact Kd.N_base ho6 | exact Kd.R_base ho6 | exact Kd.S_base ho6 | exact Kd.Q_base ho6) hb); have n2_ := aM (Kd.N_lower ho6 (below_size (hB_t HB.out))); have n3_ := aM (below_step (hB_t HB.out) hb); clear HO0; clear HO1; clear HB; have HO0 := n0_; have HO1 := n1_; have HO316 := n2_; have HB := n3_; clear n0_ n1_ n2_ n3_; clear hb ho6; obtain ⟨Ao7, co7, eo7⟩ := Kd.N_slice HO316.out; subst eo7) | ((with_reducible refine gate_callee (f := 45) rfl ?_); refine goesL_ (some 16) rfl rfl Try.func45 (by kernel_rfl) rfl #[.slice Ao7 y314.length co7] rfl mT ?_; (with_reducible refine (arboristref03_ends.calls k _ _ y314 t317 _ ?side1 ?side2 A4.out).mono ?_); (case side1 => exact Kd.C_t ((Kd.N_reads' HO316.out).2.2)); (case side2 => exact (Kd.N_reads' HO316.out).2.1); rintro e w8 ⟨v318, rfl, ho0, hb⟩; refine ⟨_, rfl, ?_⟩; have n0_ := aM (Kd.V_elder' (Kd.V_t HO0.out) (Kd.R_base ho0) hb); have n1_ := aM (Kd.V_elder' (Kd.V_t HO1.out) (Kd.R_base ho0) hb); have n2_ := aM (Kd.N_elder' (Kd.N_t HO316.out) (Kd.R_base ho0) hb); have n3_ := aM (Kd.R_lower (Kd.R_newM (M := fun k_ => (w.heap.size ≤ k_)) ho0 (below_size (hB_t HB.out)) (fun k_ h_ => h_)) (below_size (hB_t HB.out))); have n4_ := aM (below_step (hB_t HB.out) hb); clear HO0; clear HO1; clear HO316; clear HB; have HO0 := n0_; have HO1 := n1_; have HO316 := n2_; have HO319 := n3_; have HB := n4_; clear n0_ n1_ n2_ n3_ n4_; (try clear hb); (try clear hb2); (try clear hk); (try clear hi); (try clear ho0)) | ((with_reducible refine gate_dst (N := 17) rfl ?_); refine Kd.R_lit k41 _ 41 ?hg (N := 17) ?hd (xs := ([] : List (S41))) (inner := []) (ok := fun _ => True) (okp := fun _ => True) ?hr ?hp (fun _ hk => hk) trivial (Below.refl _ _) (Nat.le_refl _) (by simp) ?_; (case hd => rfl); (case hg => rfl); (case hr => first | (go_simp; done) | (go_simp; rfl)); (case hp => exact (Reps.none _ _)); intro v321 w9 ho10 hb hg_ hnew_; clear hg_ hnew_; (first | rw [← Ny320.out] at ho10 | (simp only [Int.reduceToNat] at ho10; rw [← Ny320.out] at ho10)); have n0_ := aM (Kd.V_elder' (Kd.V_t HO0.out) (Kd.R_base ho10) hb); have n1_ := aM (Kd.V_elder' (Kd.V_t HO1.out) (Kd.R_base ho10) hb); have n2_ := aM (Kd.N_elder' (Kd.N_t HO316.out) (Kd.R_base ho10) hb); have n3_ := aM (Kd.R_below (Kd.R_t HO319.out) hb); have n4_ := aM (Kd.R_lower (Kd.R_newM (M := fun k_ => (w.heap.size ≤ k_)) ho10 (below_size (hB_t HB.out)) (fun k_ h_ => h_)) (below_size (hB_t HB.out))); have n5_ := aM (below_step (hB_t HB.out) hb); clear HO0; clear HO1; clear HO316; clear HO319; clear HB; have HO0 := n0_; have HO1 := n1_; have HO316 := n2_; have HO319 := n3_; have HO322 := n4_; have HB := n5_; clear n0_ n1_ n2_ n3_ n4_ n5_; clear hb ho10))
 go_loopg [8, 9] k (fun kq v8 v9 w' => ∃ (x8_1 : List (S41)) (x9_1 : Int), v9 = .int .i64 x9_1 ∧ Aside0 (arboristref03_both.l0 kq l0 l1 a2 t317 x8_1 x9_1 = some r) ∧ Aside0 (kq ≤ k) ∧ Aside0 (Kd.V k41 41 w' w.heap.size (fun k_ => ((P0_ k_ ∨ P1_ k_) ∨ w.heap.size ≤ k_) ∧ some k_ ≠ (v318 : Value).ownBlock ∧ some k_ ≠ (v8 : Value).ownBlock) (.slice A0 l0.length c0) l0) ∧ Aside0 (Kd.V k41 41 w' w.heap.size (fun k_ => ((P0_ k_ ∨ P1_ k_) ∨ w.heap.size ≤ k_) ∧ some k_ ≠ (v318 : Value).ownBlock ∧ some k_ ≠ (v8 : Value).ownBlock) (.slice A1 l1.length c1) l1) ∧ Aside0 (Kd.R (Kd.int .i32) 21 w' w.heap.size (fun k_ => (w.heap.size ≤ k_)) v318 t317) ∧ Aside0 (Kd.R k41 41 w' w.heap.size (fun k_ => (w.heap.size ≤ k_)) v8 x8_1) ∧ Aside0 (Below w.heap.size w w'))
 case atStart => exact ⟨(y320), (0), rT, H', ⟨Nat.le_refl _⟩, ⟨Kd.V_t (Kd.V_mono HO0.out (fun _ hk => ⟨hk.1.1.1, ⟨hk.1.2, hk.2⟩⟩))⟩, ⟨Kd.V_t (Kd.V_mono HO1.out (fun _ hk => ⟨hk.1.1.1, ⟨hk.1.2, hk.2⟩⟩))⟩, ⟨Kd.R_t (Kd.R_mono HO319.out (fun _ hk => hk.1))⟩, ⟨Kd.R_t (Kd.R_mono HO322.out (fun _ hk => hk.1))⟩, ⟨hB_t HB.out⟩⟩
 case round =>
  clear H'; (try clear c1); (try clear p2); (try clear c3); (try clear c4); (try clear HK1); (try clear HO_0); (try clear HO_1); (try clear HO_7); (try clear HO_8); (try clear HB); obtain ⟨x8_1, x9_1, rfl, HA, HK1, HO_0, HO_1, HO_7, HO_8, HB⟩ := hrel
  cases gk with
  | zero => exact absurd HA.out (by simp [arboristref03_both.l0])
  | succ k1 =>
   have H := HA.out; clear HA; simp only [arboristref03_both.l0] at H
   by_cases c11 : x9_1 < (t317.length : Int)
   ·rw [if_pos c11] at H; have c11b0 : decide (x9_1 < (t317.length : Int)) = true := decide_eq_true c11; clear c11; have HC12 := aM H; clear H; obtain ⟨Ao13, co13, eo13⟩ := Kd.R_slice HO_7.out; subst eo13; go_upto_if 28 with (fail)
    go_cut [10] (fun v10 wc => ∃ (kq : Nat) (x10_11 : Int), v10 = .int .i32 x10_11 ∧ Aside0 (arboristref03_both.j1 kq l0 l1 a2 t317 x8_1 x9_1 x10_11 = some r) ∧ Aside0 (kq ≤ k1) ∧ Aside0 (Kd.V k41 41 wc w.heap.size (fun k_ => ((P0_ k_ ∨ P1_ k_) ∨ w.heap.size ≤ k_) ∧ some k_ ≠ ((.slice Ao13 t317.length co13) : Value).ownBlock ∧ some k_ ≠ (u8 : Value).ownBlock) (.slice A0 l0.length c0) l0) ∧ Aside0 (Kd.V k41 41 wc w.heap.size (fun k_ => ((P0_ k_ ∨ P1_ k_) ∨ w.heap.size ≤ k_) ∧ some k_ ≠ ((.slice Ao13 t317.length co13) : Value).ownBlock ∧ some k_ ≠ (u8 : Value).ownBlock) (.slice A1 l1.length c1) l1) ∧ Aside0 (Kd.R (Kd.int .i32) 21 wc w.heap.size (fun k_ => (w.heap.size ≤ k_)) (.slice Ao13 t317.length co13) t317) ∧ Aside0 (Kd.R k41 41 wc w.heap.size (fun k_ => (w.heap.size ≤ k_)) u8 x8_1) ∧ Aside0 (Below w.heap.size w wc))
    case first =>
     have H := HC12.out; clear HC12
     by_cases c14 : (wrap64 (x9_1 + 1)) < (t317.length : Int)
     ·rw [if_pos c14] at H; have c14b0 : decide ((wrap64 (x9_1 + 1)) < (t317.length : Int)) = true := decide_eq_true c14; clear c14; (first | rw [c14b0] | (simp only [i64_w, i32_w]; rw [c14b0]) | skip); obtain ⟨ji15, hji15⟩ : ∃ j_ : Int, (wrap64 (x9_1 + 1)) = j_ := ⟨_, rfl⟩; replace H : (if 0 ≤ (ji15) then (arboristref03_both.j1 k1 l0 l1 a2 t317 x8_1 x9_1 (wrap32 ((rd t317 (ji15)) - 1))) else (none)) = some r := by first | (rw [hji15] at H; exact H) | (simp only [hji15] at H ⊢; exact H)
      (try rw [hji15] at c14b0); have hji15w : (IntKind.i64.wrap (x9_1 + 1)) = ji15 := (i64_w _).trans hji15
      by_cases c16 : 0 ≤ (ji15)
      ·rw [if_pos c16] at H; have c16b0 : decide (0 ≤ (ji15)) = true := decide_eq_true c16; clear c16; have H' := aM H; clear H; have p323 : 0 ≤ ((ji15) : Int) := dT; have q323 : (ji15) < (t317.length : Int) := dT; obtain ⟨ad323, e323, hx323_0⟩ := Kd.at_int (Kd.R_reads' HO_7.out).2.2 (ji15) p323 q323; cases e323
       replace p323 := eq_true p323; replace q323 := eq_true q323; go_wp2
       go_meet
       case rel => exact ⟨_, (wrap32 ((rd t317 (ji15)) - 1)), (by first | rfl | (simp; done) | (simp only [← hji15] <;> (first | rfl | simp)) | (simp [*]; done)), H', ⟨by have := HK1.out; first | omega | exact Nat.le_refl _⟩, ⟨Kd.V_t HO_0.out⟩, ⟨Kd.V_t HO_1.out⟩, ⟨Kd.R_t HO_7.out⟩, ⟨Kd.R_t HO_8.out⟩, ⟨hB_t HB.out⟩⟩
      ·rw [if_neg c16] at H; exact absurd H (by simp)
     ·rw [if_neg c14] at H; have c14b0 : decide ((wrap64 (x9_1 + 1)) < (t317.length : Int)) = false := decide_eq_false c14; clear c14; (first | rw [c14b0] | (simp only [i64_w, i32_w]; rw [c14b0]) | skip); have H' := aM H; clear H; go_wp2
      go_meet
      case rel => exact ⟨_, (1114111), rT, H', ⟨by have := HK1.out; first | omega | exact Nat.le_refl _⟩, ⟨Kd.V_t HO_0.out⟩, ⟨Kd.V_t HO_1.out⟩, ⟨Kd.R_t HO_7.out⟩, ⟨Kd.R_t HO_8.out⟩, ⟨hB_t HB.out⟩⟩
    case rest =>
     clear HC12; (try clear c1); (try clear p2); (try clear c3); (try clear p3); (try clear q3); (try clear hx3); (try clear c4); (try clear p6); (try clear c11); (try clear c11b0); (try clear c14); (try clear c14b0); (try clear c16); (try clear c16b0); (try clear hx323_0); (try clear p2); (try clear p323); (try clear q323); (try clear HJ11); (try clear HO_0); (try clear HO_1); (try clear HO_7); (try clear HO_8); (try clear HB); obtain ⟨kq, x10_11, rfl, HA, HJ11, HO_0, HO_1, HO_7, HO_8, HB⟩ := hcut
     cases kq with
     | zero => exact absurd HA.out (by simp [arboristref03_both.j1])
     | succ kj11 =>
      have H := HA.out; clear HA; simp only [arboristref03_both.j1] at H
      by_cases c17 : 0 ≤ x9_1
      ·rw [if_pos c17] at H; have c17b0 : decide (0 ≤ x9_1) = true := decide_eq_true c17; clear c17
       by_cases c18 : x9_1 < (t317.length : Int)
       ·rw [if_pos c18] at H; have c18b0 : decide (x9_1 < (t317.length : Int)) = true := decide_eq_true c18; clear c18; replace H := Option.bind_eq_some_iff.mp H; obtain ⟨t325, A190, H⟩ := H; replace H : ((arboristref03_Has.f kj11 l1 (rd t317 x9_1)).bind fun t327 => (if a2 = 1 then (if t325 = true then ((arboristref03_join.f x8_1 (rd t317 x9_1) x10_11).bind fun t329 => (arboristref03_both.l0 kj11 l0 l1 a2 t317 t329 (wrap64 (x9_1 + 1)))) else (if t327 = true then ((arboristref03_join.f x8_1 (rd t317 x9_1) x10_11).bind fun t333 => (arboristref03_both.l0 kj11 l0 l1 a2 t317 t333 (wrap64 (x9_1 + 1)))) else (if a2 = 2 then (if a2 = 3 then (arboristref03_both.l0 kj11 l0 l1 a2 t317 x8_1 (wrap64 (x9_1 + 1))) else (arboristref03_both.l0 kj11 l0 l1 a2 t317 x8_1 (wrap64 (x9_1 + 1)))) else (if a2 = 3 then (arboristref03_both.l0 kj11 l0 l1 a2 t317 x8_1 (wrap64 (x9_1 + 1))) else (arboristref03_both.l0 kj11 l0 l1 a2 t317 x8_1 (wrap64 (x9_1 + 1))))))) else (if a2 = 2 then (if t325 = true then (if t327 = true then ((arboristref03_join.f x8_1 (rd t317 x9_1) x10_11).bind fun t337 => (arboristref03_both.l0 kj11 l0 l1 a2 t317 t337 (wrap64 (x9_1 + 1)))) else (if a2 = 3 then ((arboristref03_join.f x8_1 (rd t317 x9_1) x10_11).bind fun t341 => (arboristref03_both.l0 kj11 l0 l1 a2 t317 t341 (wrap64 (x9_1 + 1)))) else (arboristref03_both.l0 kj11 l0 l1 a2 t317 x8_1 (wrap64 (x9_1 + 1))))) else (if a2 = 3 then (arboristref03_both.l0 kj11 l0 l1 a2 t317 x8_1 (wrap64 (x9_1 + 1))) else (arboristref03_both.l0 kj11 l0 l1 a2 t317 x8_1 (wrap64 (x9_1 + 1))))) else (if a2 = 3 then (if t325 = true then (if t327 = true then (arboristref03_both.l0 kj11 l0 l1 a2 t317 x8_1 (wrap64 (x9_1 + 1))) else ((arboristref03_join.f x8_1 (rd t317 x9_1) x10_11).bind fun t345 => (arboristref03_both.l0 kj11 l0 l1 a2 t317 t345 (wrap64 (x9_1 + 1))))) else (arboristref03_both.l0 kj11 l0 l1 a2 t317 x8_1 (wrap64 (x9_1 + 1)))) else (arboristref03_both.l0 kj11 l0 l1 a2 t317 x8_1 (wrap64 (x9_1 + 1))))))) = some r := H; have A19 := aM A190; clear A190; replace H := Option.bind_eq_some_iff.mp H; obtain ⟨t327, A200, H⟩ := H; replace H : (if a2 = 1 then (if t325 = true then ((arboristref03_join.f x8_1 (rd t317 x9_1) x10_11).bind fun t329 => (arboristref03_both.l0 kj11 l0 l1 a2 t317 t329 (wrap64 (x9_1 + 1)))) else (if t327 = true then ((arboristref03_join.f x8_1 (rd t317 x9_1) x10_11).bind fun t333 => (arboristref03_both.l0 kj11 l0 l1 a2 t317 t333 (wrap64 (x9_1 + 1)))) else (if a2 = 2 then (if a2 = 3 then (arboristref03_both.l0 kj11 l0 l1 a2 t317 x8_1 (wrap64 (x9_1 + 1))) else (arboristref03_both.l0 kj11 l0 l1 a2 t317 x8_1 (wrap64 (x9_1 + 1)))) else (if a2 = 3 then (arboristref03_both.l0 kj11 l0 l1 a2 t317 x8_1 (wrap64 (x9_1 + 1))) else (arboristref03_both.l0 kj11 l0 l1 a2 t317 x8_1 (wrap64 (x9_1 + 1))))))) else (if a2 = 2 then (if t325 = true then (if t327 = true then ((arboristref03_join.f x8_1 (rd t317 x9_1) x10_11).bind fun t337 => (arboristref03_both.l0 kj11 l0 l1 a2 t317 t337 (wrap64 (x9_1 + 1)))) else (if a2 = 3 then ((arboristref03_join.f x8_1 (rd t317 x9_1) x10_11).bind fun t341 => (arboristref03_both.l0 kj11 l0 l1 a2 t317 t341 (wrap64 (x9_1 + 1)))) else (arboristref03_both.l0 kj11 l0 l1 a2 t317 x8_1 (wrap64 (x9_1 + 1))))) else (if a2 = 3 then (arboristref03_both.l0 kj11 l0 l1 a2 t317 x8_1 (wrap64 (x9_1 + 1))) else (arboristref03_both.l0 kj11 l0 l1 a2 t317 x8_1 (wrap64 (x9_1 + 1))))) else (if a2 = 3 then (if t325 = true then (if t327 = true then (arboristref03_both.l0 kj11 l0 l1 a2 t317 x8_1 (wrap64 (x9_1 + 1))) else ((arboristref03_join.f x8_1 (rd t317 x9_1) x10_11).bind fun t345 => (arboristref03_both.l0 kj11 l0 l1 a2 t317 t345 (wrap64 (x9_1 + 1))))) else (arboristref03_both.l0 kj11 l0 l1 a2 t317 x8_1 (wrap64 (x9_1 + 1)))) else (arboristref03_both.l0 kj11 l0 l1 a2 t317 x8_1 (wrap64 (x9_1 + 1)))))) = some r := H; have A20 := aM A200; clear A200
        by_cases c21 : a2 = 1
        ·rw [if_pos c21] at H; have c21b0 : (a2 == 1) = true := beq_iff_eq.mpr c21; have c21b1 : (a2 != 1) = false := bne_eq_false_iff_eq.mpr c21; clear c21
         by_cases c22 : t325 = true
         ·subst c22; have H1 : ((arboristref03_join.f x8_1 (rd t317 x9_1) x10_11).bind fun t329 => (arboristref03_both.l0 kj11 l0 l1 a2 t317 t329 (wrap64 (x9_1 + 1)))) = some r := by rw [if_pos rfl] at H; exact H
          clear H; have H := H1; clear H1; replace H := Option.bind_eq_some_iff.mp H; obtain ⟨t329, A230, H⟩ := H; replace H : (arboristref03_both.l0 kj11 l0 l1 a2 t317 t329 (wrap64 (x9_1 + 1))) = some r := H; have A23 := aM A230; clear A230; have H' := aM H; clear H; try go_wp2
          have n0_ := aM (Kd.V_drew HO_0.out); have n1_ := aM (Kd.V_drew HO_1.out); have n2_ := aM (Kd.R_drew HO_7.out); have n3_ := aM (Kd.R_drew HO_8.out); have n4_ := aM (below_drew1 HB.out); clear HO_0; clear HO_1; clear HO_7; clear HO_8; clear HB; have HO_0 := n0_; have HO_1 := n1_; have HO_7 := n2_; have HO_8 := n3_; have HB := n4_; clear n0_ n1_ n2_ n3_ n4_; have p324 : 0 ≤ (x9_1 : Int) := dT; have q324 : x9_1 < (t317.length : Int) := dT; obtain ⟨ad324, e324, hx324_0⟩ := Kd.at_int (Kd.R_reads' HO_7.out).2.2 x9_1 p324 q324; cases e324
          replace p324 := eq_true p324; replace q324 := eq_true q324; have p326 : 0 ≤ (x9_1 : Int) := dT; have q326 : x9_1 < (t317.length : Int) := dT; obtain ⟨ad326, e326, hx326_0⟩ := Kd.at_int (Kd.R_reads' HO_7.out).2.2 x9_1 p326 q326; obtain rfl : ad324 = ad326 := (by injection e326); replace p326 := eq_true p326; replace q326 := eq_true q326; refine start_ (n := 14) (S := fun w' => w'.cell? (ad324.add (x9_1).toNat) = some (.int .i32 (rd t317 x9_1)) ∧ w'.cell? (ad324.add (x9_1).toNat) = some (.int .i32 (rd t317 x9_1))) (ds := []) #[false, false, false, false, false, false, false, false, false, false, false, false, false, false] (by kernel_rfl) rfl rfl ⟨hx324_0, hx326_0⟩ (fun hHeld => ?_); refine with_tabW arboristref03_both.tab9 arboristref03_both.bits9 (fun HT_ HW_ => ?_); generalize wc.drew = w24 at HO_0 HO_1 HO_7 HO_8 HB hx324_0 hx326_0 hHeld ⊢; refine pure_ (i := 0) (N := some 35) (v := ?_) (a' := ?_) #[true, false, false, false, false, false, false, false, false, false, false, false, false, false] rfl rfl (any_of HT_.out (by kernel_rfl)) (fun _ _ _ h => h) (Or.inl ⟨by rfl, ?_⟩) ?_ ?_; rotate_left
          ·intro w'; go_simp; with_reducible rfl
          rotate_left
          ·simp only [Act.put, sA, sZ, sS, i64_w, i32_w]; rfl
          refine pure_ (i := 1) (N := some 36) (v := ?_) (a' := ?_) #[true, true, false, false, false, false, false, false, false, false, false, false, false, false] rfl rfl (any_of HT_.out (by kernel_rfl)) (fun _ _ _ h => h) (Or.inl ⟨by rfl, ?_⟩) ?_ ?_; rotate_left
          ·intro w'; go_simp; with_reducible rfl
          rotate_left
          ·simp only [Act.put, sA, sZ, sS, i64_w, i32_w]; rfl
          refine pure_ (i := 2) (N := some 37) (v := ?_) (a' := ?_) #[true, true, true, false, false, false, false, false, false, false, false, false, false, false] rfl rfl (any_of HT_.out (by kernel_rfl)) (fun _ _ _ h => h) (Or.inl ⟨by rfl, ?_⟩) ?_ ?_; rotate_left
          ·intro w'; go_simp; with_reducible rfl
          rotate_left
          ·simp only [Act.put, sA, sZ, sS, i64_w, i32_w]; rfl
          refine pure_ (i := 3) (N := some 38) (v := ?_) (a' := ?_) #[true, true, true, true, false, false, false, false, false, false, false, false, false, false] rfl rfl (any_of HT_.out (by kernel_rfl)) (fun _ _ _ h => h) (Or.inl ⟨by rfl, ?_⟩) ?_ ?_; rotate_left
          ·intro w'; go_simp; with_reducible rfl
          rotate_left
          ·simp only [Act.put, sA, sZ, sS, i64_w, i32_w]; rfl
          refine pure_ (i := 6) (N := some 41) (v := ?_) (a' := ?_) #[true, true, true, true, false, false, true, false, false, false, false, false, false, false] rfl rfl (any_of HT_.out (by kernel_rfl)) (fun _ _ _ h => h) (Or.inl ⟨by rfl, ?_⟩) ?_ ?_; rotate_left
          ·intro w'; go_simp; with_reducible rfl
          rotate_left
          ·simp only [Act.put, sA, sZ, sS, i64_w, i32_w]; rfl
          refine pure_ (i := 7) (N := some 42) (v := ?_) (a' := ?_) #[true, true, true, true, false, false, true, true, false, false, false, false, false, false] rfl rfl (any_of HT_.out (by kernel_rfl)) (fun _ _ _ h => h) (Or.inl ⟨by rfl, ?_⟩) ?_ ?_; rotate_left
          ·intro w'; go_simp; with_reducible rfl
          rotate_left
          ·simp only [Act.put, sA, sZ, sS, i64_w, i32_w]; rfl
          refine pure_ (i := 8) (N := some 43) (v := ?_) (a' := ?_) #[true, true, true, true, false, false, true, true, true, false, false, false, false, false] rfl rfl (any_of HT_.out (by kernel_rfl)) (fun _ _ _ h => h) (Or.inl ⟨by rfl, ?_⟩) ?_ ?_; rotate_left
          ·intro w'; go_simp; with_reducible rfl
          rotate_left
          ·simp only [Act.put, sA, sZ, sS, i64_w, i32_w]; rfl
          refine pure_ (i := 9) (N := some 44) (v := ?_) (a' := ?_) #[true, true, true, true, false, false, true, true, true, true, false, false, false, false] rfl rfl (any_of HT_.out (by kernel_rfl)) (fun _ _ _ h => h) (Or.inl ⟨by rfl, ?_⟩) ?_ ?_; rotate_left
          ·intro w'; go_simp; with_reducible rfl
          rotate_left
          ·simp only [Act.put, sA, sZ, sS, i64_w, i32_w]; rfl
          refine take_ (i := 4) (N := some 39) (v := ?_) (a' := ?_) #[true, true, true, true, true, false, true, true, true, true, false, false, false, false] rfl rfl (take_ofW HT_.out HW_.out (by kernel_rfl)) (fun _ _ _ h => h) (Or.inl ⟨by rfl, ?_⟩) hHeld ?_ ?_; rotate_left
          ·rintro w' ⟨s0, s1⟩; go_simp; with_reducible rfl
          rotate_left
          ·simp only [Act.put, sA, sZ, sS, i64_w, i32_w]; rfl
          refine take_ (i := 10) (N := some 45) (v := ?_) (a' := ?_) #[true, true, true, true, true, false, true, true, true, true, true, false, false, false] rfl rfl (take_ofW HT_.out HW_.out (by kernel_rfl)) (fun _ _ _ h => h) (Or.inl ⟨by rfl, ?_⟩) hHeld ?_ ?_; rotate_left
          ·rintro w' ⟨s0, s1⟩; go_simp; with_reducible rfl
          rotate_left
          ·simp only [Act.put, sA, sZ, sS, i64_w, i32_w]; rfl
          refine one_ (i := 5) (N := some 40) #[true, true, true, true, true, true, true, true, true, true, true, false, false, false] rfl rfl (one_of HT_.out (by kernel_rfl)) (by decide) (fun K hK => ?_); refine goes_ Try.func18 (by kernel_rfl) rfl #[.slice A0 l0.length c0, .int .i32 (rd t317 x9_1)] (by rfl) rfl rfl mT ?_; with_reducible refine (arboristref03_Has.calls kj11 _ _ l0 (rd t317 x9_1) true _ ?side1 ?side2 A19.out).mono ?_
          (case side1 => exact Kd.C_t ((Kd.V_reads' HO_0.out).2.2)); (case side2 => exact (Kd.V_reads' HO_0.out).2.1); rintro e w25 ⟨rfl, hb⟩; have HS0_ := (hb.cell (World.block_lt_of_cell? _ _ (hHeld.1))).trans (hHeld.1); have HS1_ := (hb.cell (World.block_lt_of_cell? _ _ (hHeld.2))).trans (hHeld.2); refine ⟨_, rfl, ?_⟩; have n0_ := aM (Kd.V_below (Kd.V_t HO_0.out) hb); have n1_ := aM (Kd.V_below (Kd.V_t HO_1.out) hb); have n2_ := aM (Kd.R_below (Kd.R_t HO_7.out) hb); have n3_ := aM (Kd.R_below (Kd.R_t HO_8.out) hb); have n4_ := aM (below_step (hB_t HB.out) hb); clear HO_0; clear HO_1; clear HO_7; clear HO_8; clear HB; have HO_0 := n0_; have HO_1 := n1_; have HO_7 := n2_; have HO_8 := n3_; have HB := n4_; clear n0_ n1_ n2_ n3_ n4_; (try clear hb); (try clear hb2); (try clear hk); (try clear hi); refine hK.out _ _ ⟨HS0_, HS1_⟩ (fun hHeld => ?_); clear hK K; refine norm_ (a' := ?_) ?_ ?_; rotate_left
          ·show Act.put _ (some 40) _ = _
           simp only [Act.put, sA, sZ, sS, i64_w, i32_w]; rfl
          refine one_ (i := 11) (N := some 46) #[true, true, true, true, true, true, true, true, true, true, true, true, false, false] rfl rfl (one_of HT_.out (by kernel_rfl)) (by decide) (fun K hK => ?_); refine goes_ Try.func18 (by kernel_rfl) rfl #[.slice A1 l1.length c1, .int .i32 (rd t317 x9_1)] (by rfl) rfl rfl mT ?_; with_reducible refine (arboristref03_Has.calls kj11 _ _ l1 (rd t317 x9_1) t327 _ ?side1 ?side2 A20.out).mono ?_
          (case side1 => exact Kd.C_t ((Kd.V_reads' HO_1.out).2.2)); (case side2 => exact (Kd.V_reads' HO_1.out).2.1); rintro e w26 ⟨rfl, hb⟩; have HS0_ := (hb.cell (World.block_lt_of_cell? _ _ (hHeld.1))).trans (hHeld.1); have HS1_ := (hb.cell (World.block_lt_of_cell? _ _ (hHeld.2))).trans (hHeld.2); refine ⟨_, rfl, ?_⟩; have n0_ := aM (Kd.V_below (Kd.V_t HO_0.out) hb); have n1_ := aM (Kd.V_below (Kd.V_t HO_1.out) hb); have n2_ := aM (Kd.R_below (Kd.R_t HO_7.out) hb); have n3_ := aM (Kd.R_below (Kd.R_t HO_8.out) hb); have n4_ := aM (below_step (hB_t HB.out) hb); clear HO_0; clear HO_1; clear HO_7; clear HO_8; clear HB; have HO_0 := n0_; have HO_1 := n1_; have HO_7 := n2_; have HO_8 := n3_; have HB := n4_; clear n0_ n1_ n2_ n3_ n4_; (try clear hb); (try clear hb2); (try clear hk); (try clear hi); refine hK.out _ _ ⟨HS0_, HS1_⟩ (fun hHeld => ?_); clear hK K; refine norm_ (a' := ?_) ?_ ?_; rotate_left
          ·show Act.put _ (some 46) _ = _
           simp only [Act.put, sA, sZ, sS, i64_w, i32_w]; rfl
          refine pure_ (i := 12) (N := some 11) (v := ?_) (a' := ?_) #[true, true, true, true, true, true, true, true, true, true, true, true, true, false] rfl rfl (any_of HT_.out (by kernel_rfl)) (fun _ _ _ h => h) (Or.inl ⟨by rfl, ?_⟩) ?_ ?_; rotate_left
          ·intro w'; go_simp; with_reducible rfl
          rotate_left
          ·simp only [Act.put, sA, sZ, sS, i64_w, i32_w]; rfl
          refine pure_ (i := 13) (N := some 12) (v := ?_) (a' := ?_) #[true, true, true, true, true, true, true, true, true, true, true, true, true, true] rfl rfl (any_of HT_.out (by kernel_rfl)) (fun _ _ _ h => h) (Or.inl ⟨by rfl, ?_⟩) ?_ ?_; rotate_left
          ·intro w'; go_simp; with_reducible rfl
          rotate_left
          ·simp only [Act.put, sA, sZ, sS, i64_w, i32_w]; rfl
          refine done_ (done_of HT_.out (by kernel_rfl)) ?_; have p328 : 0 ≤ (x9_1 : Int) := dT; have q328 : x9_1 < (t317.length : Int) := dT; obtain ⟨ad328, e328, hx328_0⟩ := Kd.at_int (Kd.R_reads' HO_7.out).2.2 x9_1 p328 q328; obtain rfl : ad324 = ad328 := (by injection e328); replace p328 := eq_true p328; replace q328 := eq_true q328; obtain ⟨Ao27, co27, eo27⟩ := Kd.R_slice HO_8.out; subst eo27; try go_wp2_with (first | ((with_reducible refine gate_callee (f := 47) rfl ?_); refine goesL_ (some 82) rfl rfl Try.func47 (by kernel_rfl) rfl #[.slice Ao27 x8_1.length co27, .int .i32 (rd t317 x9_1), .int .i32 x10_11] rfl mT ?_; (with_reducible refine (arboristref03_join.calls (fun k_ => some k_ = (.slice Ao27 x8_1.length co27 : Value).ownBlock) (.slice Ao27 x8_1.length co27) x8_1 (rd t317 x9_1) x10_11 t329 w _ ?side1 ?side2 A23.out).mono ?_); (case side1 => repeat (first | (with_reducible first | exact HB.out | apply below_alloc | apply pw_below_drewN | apply below_drew1) | exact HB.out)); (case side2 => exact Kd.R_tight rfl HO_8.out); rintro e w28 ⟨v330, rfl, ho0, hb, hkp⟩; refine ⟨_, rfl, ?_⟩; have n0_ := aM (Kd.V_mono (ok' := fun k_ => ((P0_ k_ ∨ P1_ k_) ∨ w.heap.size ≤ k_) ∧ some k_ ≠ (.slice (some ad324) t317.length co13 : Value).ownBlock ∧ some k_ ≠ (v330 : Value).ownBlock) (Kd.V_keptB (HO_0.out) hkp (fun k_ hk_ hs_ => (hk_.2.2) hs_)) (fun k_ hk_ => ⟨hk_.1.1, hk_.1.2.1, fun e_ => Or.elim (ho0.1 k_ e_.symm) (fun hs_ => hk_.2.1 hs_) (fun hn_ => Nat.not_le.2 hk_.2.2 hn_)⟩)); have n1_ := aM (Kd.V_mono (ok' := fun k_ => ((P0_ k_ ∨ P1_ k_) ∨ w.heap.size ≤ k_) ∧ some k_ ≠ (.slice (some ad324) t317.length co13 : Value).ownBlock ∧ some k_ ≠ (v330 : Value).ownBlock) (Kd.V_keptB (HO_1.out) hkp (fun k_ hk_ hs_ => (hk_.2.2) hs_)) (fun k_ hk_ => ⟨hk_.1.1, hk_.1.2.1, fun e_ => Or.elim (ho0.1 k_ e_.symm) (fun hs_ => hk_.2.1 hs_) (fun hn_ => Nat.not_le.2 hk_.2.2 hn_)⟩)); have n2_ := aM (Kd.R_mono (ok' := fun k_ => (w.heap.size ≤ k_)) (Kd.R_keptB ((Kd.R_apart' HO_7.out (Kd.R_typed HO_8.out) (by decide))) hkp (fun k_ hk_ hs_ => (hk_.2) hs_)) (fun k_ hk_ => hk_.1.1)); have n3_ := aM (Kd.R_mono (ok' := fun k_ => (w.heap.size ≤ k_)) ho0 (fun k_ hk_ => Or.elim hk_ (fun hs_ => (HO_8.out.1 k_ (hs_).symm)) (fun hn_ => (Nat.le_trans (below_size (hB_t HB.out)) hn_)))); have n4_ := aM (hb); clear HO_0; clear HO_1; clear HO_7; clear HB; clear HO_8; have HO_0 := n0_; have HO_1 := n1_; have HO_7 := n2_; have HO331 := n3_; have HB := n4_; clear n0_ n1_ n2_ n3_ n4_; (try clear hb); (try clear hkp); (try clear ho0)))
          go_roundg kj11
          case measure => have := HK1.out; have := HJ11.out; omega
          case rel => exact ⟨(t329), (wrap64 (x9_1 + 1)), rT, H', ⟨by have := HK1.out; have := HJ11.out; omega⟩, ⟨Kd.V_t HO_0.out⟩, ⟨Kd.V_t HO_1.out⟩, ⟨Kd.R_t HO_7.out⟩, ⟨Kd.R_t HO331.out⟩, ⟨hB_t HB.out⟩⟩
         ·replace c22 := Bool.eq_false_iff.mpr c22; subst c22; have H1 : (if t327 = true then ((arboristref03_join.f x8_1 (rd t317 x9_1) x10_11).bind fun t333 => (arboristref03_both.l0 kj11 l0 l1 a2 t317 t333 (wrap64 (x9_1 + 1)))) else (if a2 = 2 then (if a2 = 3 then (arboristref03_both.l0 kj11 l0 l1 a2 t317 x8_1 (wrap64 (x9_1 + 1))) else (arboristref03_both.l0 kj11 l0 l1 a2 t317 x8_1 (wrap64 (x9_1 + 1)))) else (if a2 = 3 then (arboristref03_both.l0 kj11 l0 l1 a2 t317 x8_1 (wrap64 (x9_1 + 1))) else (arboristref03_both.l0 kj11 l0 l1 a2 t317 x8_1 (wrap64 (x9_1 + 1)))))) = some r := by rw [if_neg (show ¬ (false = true) by decide)] at H; exact H
          clear H; have H := H1; clear H1
          by_cases c29 : t327 = true
          ·subst c29; have H1 : ((arboristref03_join.f x8_1 (rd t317 x9_1) x10_11).bind fun t333 => (arboristref03_both.l0 kj11 l0 l1 a2 t317 t333 (wrap64 (x9_1 + 1)))) = some r := by rw [if_pos rfl] at H; exact H
           clear H; have H := H1; clear H1; replace H := Option.bind_eq_some_iff.mp H; obtain ⟨t333, A300, H⟩ := H; replace H : (arboristref03_both.l0 kj11 l0 l1 a2 t317 t333 (wrap64 (x9_1 + 1))) = some r := H; have A30 := aM A300; clear A300; have H' := aM H; clear H; try go_wp2
           have n0_ := aM (Kd.V_drew HO_0.out); have n1_ := aM (Kd.V_drew HO_1.out); have n2_ := aM (Kd.R_drew HO_7.out); have n3_ := aM (Kd.R_drew HO_8.out); have n4_ := aM (below_drew1 HB.out); clear HO_0; clear HO_1; clear HO_7; clear HO_8; clear HB; have HO_0 := n0_; have HO_1 := n1_; have HO_7 := n2_; have HO_8 := n3_; have HB := n4_; clear n0_ n1_ n2_ n3_ n4_; have p324 : 0 ≤ (x9_1 : Int) := dT; have q324 : x9_1 < (t317.length : Int) := dT; obtain ⟨ad324, e324, hx324_0⟩ := Kd.at_int (Kd.R_reads' HO_7.out).2.2 x9_1 p324 q324; cases e324
           replace p324 := eq_true p324; replace q324 := eq_true q324; have p326 : 0 ≤ (x9_1 : Int) := dT; have q326 : x9_1 < (t317.length : Int) := dT; obtain ⟨ad326, e326, hx326_0⟩ := Kd.at_int (Kd.R_reads' HO_7.out).2.2 x9_1 p326 q326; obtain rfl : ad324 = ad326 := (by injection e326); replace p326 := eq_true p326; replace q326 := eq_true q326; refine start_ (n := 14) (S := fun w' => w'.cell? (ad324.add (x9_1).toNat) = some (.int .i32 (rd t317 x9_1)) ∧ w'.cell? (ad324.add (x9_1).toNat) = some (.int .i32 (rd t317 x9_1))) (ds := []) #[false, false, false, false, false, false, false, false, false, false, false, false, false, false] (by kernel_rfl) rfl rfl ⟨hx324_0, hx326_0⟩ (fun hHeld => ?_); refine with_tabW arboristref03_both.tab9 arboristref03_both.bits9 (fun HT_ HW_ => ?_); generalize wc.drew = w31 at HO_0 HO_1 HO_7 HO_8 HB hx324_0 hx326_0 hHeld ⊢; refine pure_ (i := 0) (N := some 35) (v := ?_) (a' := ?_) #[true, false, false, false, false, false, false, false, false, false, false, false, false, false] rfl rfl (any_of HT_.out (by kernel_rfl)) (fun _ _ _ h => h) (Or.inl ⟨by rfl, ?_⟩) ?_ ?_; rotate_left
           ·intro w'; go_simp; with_reducible rfl
           rotate_left
           ·simp only [Act.put, sA, sZ, sS, i64_w, i32_w]; rfl
           refine pure_ (i := 1) (N := some 36) (v := ?_) (a' := ?_) #[true, true, false, false, false, false, false, false, false, false, false, false, false, false] rfl rfl (any_of HT_.out (by kernel_rfl)) (fun _ _ _ h => h) (Or.inl ⟨by rfl, ?_⟩) ?_ ?_; rotate_left
           ·intro w'; go_simp; with_reducible rfl
           rotate_left
           ·simp only [Act.put, sA, sZ, sS, i64_w, i32_w]; rfl
           refine pure_ (i := 2) (N := some 37) (v := ?_) (a' := ?_) #[true, true, true, false, false, false, false, false, false, false, false, false, false, false] rfl rfl (any_of HT_.out (by kernel_rfl)) (fun _ _ _ h => h) (Or.inl ⟨by rfl, ?_⟩) ?_ ?_; rotate_left
           ·intro w'; go_simp; with_reducible rfl
           rotate_left
           ·simp only [Act.put, sA, sZ, sS, i64_w, i32_w]; rfl
           refine pure_ (i := 3) (N := some 38) (v := ?_) (a' := ?_) #[true, true, true, true, false, false, false, false, false, false, false, false, false, false] rfl rfl (any_of HT_.out (by kernel_rfl)) (fun _ _ _ h => h) (Or.inl ⟨by rfl, ?_⟩) ?_ ?_; rotate_left
           ·intro w'; go_simp; with_reducible rfl
           rotate_left
           ·simp only [Act.put, sA, sZ, sS, i64_w, i32_w]; rfl
           refine pure_ (i := 6) (N := some 41) (v := ?_) (a' := ?_) #[true, true, true, true, false, false, true, false, false, false, false, false, false, false] rfl rfl (any_of HT_.out (by kernel_rfl)) (fun _ _ _ h => h) (Or.inl ⟨by rfl, ?_⟩) ?_ ?_; rotate_left
           ·intro w'; go_simp; with_reducible rfl
           rotate_left
           ·simp only [Act.put, sA, sZ, sS, i64_w, i32_w]; rfl
           refine pure_ (i := 7) (N := some 42) (v := ?_) (a' := ?_) #[true, true, true, true, false, false, true, true, false, false, false, false, false, false] rfl rfl (any_of HT_.out (by kernel_rfl)) (fun _ _ _ h => h) (Or.inl ⟨by rfl, ?_⟩) ?_ ?_; rotate_left
           ·intro w'; go_simp; with_reducible rfl
           rotate_left
           ·simp only [Act.put, sA, sZ, sS, i64_w, i32_w]; rfl
           refine pure_ (i := 8) (N := some 43) (v := ?_) (a' := ?_) #[true, true, true, true, false, false, true, true, true, false, false, false, false, false] rfl rfl (any_of HT_.out (by kernel_rfl)) (fun _ _ _ h => h) (Or.inl ⟨by rfl, ?_⟩) ?_ ?_; rotate_left
           ·intro w'; go_simp; with_reducible rfl
           rotate_left
           ·simp only [Act.put, sA, sZ, sS, i64_w, i32_w]; rfl
           refine pure_ (i := 9) (N := some 44) (v := ?_) (a' := ?_) #[true, true, true, true, false, false, true, true, true, true, false, false, false, false] rfl rfl (any_of HT_.out (by kernel_rfl)) (fun _ _ _ h => h) (Or.inl ⟨by rfl, ?_⟩) ?_ ?_; rotate_left
           ·intro w'; go_simp; with_reducible rfl
           rotate_left
           ·simp only [Act.put, sA, sZ, sS, i64_w, i32_w]; rfl
           refine take_ (i := 4) (N := some 39) (v := ?_) (a' := ?_) #[true, true, true, true, true, false, true, true, true, true, false, false, false, false] rfl rfl (take_ofW HT_.out HW_.out (by kernel_rfl)) (fun _ _ _ h => h) (Or.inl ⟨by rfl, ?_⟩) hHeld ?_ ?_; rotate_left
           ·rintro w' ⟨s0, s1⟩; go_simp; with_reducible rfl
           rotate_left
           ·simp only [Act.put, sA, sZ, sS, i64_w, i32_w]; rfl
           refine take_ (i := 10) (N := some 45) (v := ?_) (a' := ?_) #[true, true, true, true, true, false, true, true, true, true, true, false, false, false] rfl rfl (take_ofW HT_.out HW_.out (by kernel_rfl)) (fun _ _ _ h => h) (Or.inl ⟨by rfl, ?_⟩) hHeld ?_ ?_; rotate_left
           ·rintro w' ⟨s0, s1⟩; go_simp; with_reducible rfl
           rotate_left
           ·simp only [Act.put, sA, sZ, sS, i64_w, i32_w]; rfl
           refine one_ (i := 5) (N := some 40) #[true, true, true, true, true, true, true, true, true, true, true, false, false, false] rfl rfl (one_of HT_.out (by kernel_rfl)) (by decide) (fun K hK => ?_); refine goes_ Try.func18 (by kernel_rfl) rfl #[.slice A0 l0.length c0, .int .i32 (rd t317 x9_1)] (by rfl) rfl rfl mT ?_; with_reducible refine (arboristref03_Has.calls kj11 _ _ l0 (rd t317 x9_1) false _ ?side1 ?side2 A19.out).mono ?_
           (case side1 => exact Kd.C_t ((Kd.V_reads' HO_0.out).2.2)); (case side2 => exact (Kd.V_reads' HO_0.out).2.1); rintro e w32 ⟨rfl, hb⟩; have HS0_ := (hb.cell (World.block_lt_of_cell? _ _ (hHeld.1))).trans (hHeld.1); have HS1_ := (hb.cell (World.block_lt_of_cell? _ _ (hHeld.2))).trans (hHeld.2); refine ⟨_, rfl, ?_⟩; have n0_ := aM (Kd.V_below (Kd.V_t HO_0.out) hb); have n1_ := aM (Kd.V_below (Kd.V_t HO_1.out) hb); have n2_ := aM (Kd.R_below (Kd.R_t HO_7.out) hb); have n3_ := aM (Kd.R_below (Kd.R_t HO_8.out) hb); have n4_ := aM (below_step (hB_t HB.out) hb); clear HO_0; clear HO_1; clear HO_7; clear HO_8; clear HB; have HO_0 := n0_; have HO_1 := n1_; have HO_7 := n2_; have HO_8 := n3_; have HB := n4_; clear n0_ n1_ n2_ n3_ n4_; (try clear hb); (try clear hb2); (try clear hk); (try clear hi); refine hK.out _ _ ⟨HS0_, HS1_⟩ (fun hHeld => ?_); clear hK K; refine norm_ (a' := ?_) ?_ ?_; rotate_left
           ·show Act.put _ (some 40) _ = _
            simp only [Act.put, sA, sZ, sS, i64_w, i32_w]; rfl
           refine one_ (i := 11) (N := some 46) #[true, true, true, true, true, true, true, true, true, true, true, true, false, false] rfl rfl (one_of HT_.out (by kernel_rfl)) (by decide) (fun K hK => ?_); refine goes_ Try.func18 (by kernel_rfl) rfl #[.slice A1 l1.length c1, .int .i32 (rd t317 x9_1)] (by rfl) rfl rfl mT ?_; with_reducible refine (arboristref03_Has.calls kj11 _ _ l1 (rd t317 x9_1) true _ ?side1 ?side2 A20.out).mono ?_
           (case side1 => exact Kd.C_t ((Kd.V_reads' HO_1.out).2.2)); (case side2 => exact (Kd.V_reads' HO_1.out).2.1); rintro e w33 ⟨rfl, hb⟩; have HS0_ := (hb.cell (World.block_lt_of_cell? _ _ (hHeld.1))).trans (hHeld.1); have HS1_ := (hb.cell (World.block_lt_of_cell? _ _ (hHeld.2))).trans (hHeld.2); refine ⟨_, rfl, ?_⟩; have n0_ := aM (Kd.V_below (Kd.V_t HO_0.out) hb); have n1_ := aM (Kd.V_below (Kd.V_t HO_1.out) hb); have n2_ := aM (Kd.R_below (Kd.R_t HO_7.out) hb); have n3_ := aM (Kd.R_below (Kd.R_t HO_8.out) hb); have n4_ := aM (below_step (hB_t HB.out) hb); clear HO_0; clear HO_1; clear HO_7; clear HO_8; clear HB; have HO_0 := n0_; have HO_1 := n1_; have HO_7 := n2_; have HO_8 := n3_; have HB := n4_; clear n0_ n1_ n2_ n3_ n4_; (try clear hb); (try clear hb2); (try clear hk); (try clear hi); refine hK.out _ _ ⟨HS0_, HS1_⟩ (fun hHeld => ?_); clear hK K; refine norm_ (a' := ?_) ?_ ?_; rotate_left
           ·show Act.put _ (some 46) _ = _
            simp only [Act.put, sA, sZ, sS, i64_w, i32_w]; rfl
           refine pure_ (i := 12) (N := some 11) (v := ?_) (a' := ?_) #[true, true, true, true, true, true, true, true, true, true, true, true, true, false] rfl rfl (any_of HT_.out (by kernel_rfl)) (fun _ _ _ h => h) (Or.inl ⟨by rfl, ?_⟩) ?_ ?_; rotate_left
           ·intro w'; go_simp; with_reducible rfl
           rotate_left
           ·simp only [Act.put, sA, sZ, sS, i64_w, i32_w]; rfl
           refine pure_ (i := 13) (N := some 12) (v := ?_) (a' := ?_) #[true, true, true, true, true, true, true, true, true, true, true, true, true, true] rfl rfl (any_of HT_.out (by kernel_rfl)) (fun _ _ _ h => h) (Or.inl ⟨by rfl, ?_⟩) ?_ ?_; rotate_left
           ·intro w'; go_simp; with_reducible rfl
           rotate_left
           ·simp only [Act.put, sA, sZ, sS, i64_w, i32_w]; rfl
           refine done_ (done_of HT_.out (by kernel_rfl)) ?_; have p332 : 0 ≤ (x9_1 : Int) := dT; have q332 : x9_1 < (t317.length : Int) := dT; obtain ⟨ad332, e332, hx332_0⟩ := Kd.at_int (Kd.R_reads' HO_7.out).2.2 x9_1 p332 q332; obtain rfl : ad324 = ad332 := (by injection e332); replace p332 := eq_true p332; replace q332 := eq_true q332; obtain ⟨Ao34, co34, eo34⟩ := Kd.R_slice HO_8.out; subst eo34; try go_wp2_with (first | ((with_reducible refine gate_callee (f := 47) rfl ?_); refine goesL_ (some 82) rfl rfl Try.func47 (by kernel_rfl) rfl #[.slice Ao34 x8_1.length co34, .int .i32 (rd t317 x9_1), .int .i32 x10_11] rfl mT ?_; (with_reducible refine (arboristref03_join.calls (fun k_ => some k_ = (.slice Ao34 x8_1.length co34 : Value).ownBlock) (.slice Ao34 x8_1.length co34) x8_1 (rd t317 x9_1) x10_11 t333 w _ ?side1 ?side2 A30.out).mono ?_); (case side1 => repeat (first | (with_reducible first | exact HB.out | apply below_alloc | apply pw_below_drewN | apply below_drew1) | exact HB.out)); (case side2 => exact Kd.R_tight rfl HO_8.out); rintro e w35 ⟨v334, rfl, ho0, hb, hkp⟩; refine ⟨_, rfl, ?_⟩; have n0_ := aM (Kd.V_mono (ok' := fun k_ => ((P0_ k_ ∨ P1_ k_) ∨ w.heap.size ≤ k_) ∧ some k_ ≠ (.slice (some ad324) t317.length co13 : Value).ownBlock ∧ some k_ ≠ (v334 : Value).ownBlock) (Kd.V_keptB (HO_0.out) hkp (fun k_ hk_ hs_ => (hk_.2.2) hs_)) (fun k_ hk_ => ⟨hk_.1.1, hk_.1.2.1, fun e_ => Or.elim (ho0.1 k_ e_.symm) (fun hs_ => hk_.2.1 hs_) (fun hn_ => Nat.not_le.2 hk_.2.2 hn_)⟩)); have n1_ := aM (Kd.V_mono (ok' := fun k_ => ((P0_ k_ ∨ P1_ k_) ∨ w.heap.size ≤ k_) ∧ some k_ ≠ (.slice (some ad324) t317.length co13 : Value).ownBlock ∧ some k_ ≠ (v334 : Value).ownBlock) (Kd.V_keptB (HO_1.out) hkp (fun k_ hk_ hs_ => (hk_.2.2) hs_)) (fun k_ hk_ => ⟨hk_.1.1, hk_.1.2.1, fun e_ => Or.elim (ho0.1 k_ e_.symm) (fun hs_ => hk_.2.1 hs_) (fun hn_ => Nat.not_le.2 hk_.2.2 hn_)⟩)); have n2_ := aM (Kd.R_mono (ok' := fun k_ => (w.heap.size ≤ k_)) (Kd.R_keptB ((Kd.R_apart' HO_7.out (Kd.R_typed HO_8.out) (by decide))) hkp (fun k_ hk_ hs_ => (hk_.2) hs_)) (fun k_ hk_ => hk_.1.1)); have n3_ := aM (Kd.R_mono (ok' := fun k_ => (w.heap.size ≤ k_)) ho0 (fun k_ hk_ => Or.elim hk_ (fun hs_ => (HO_8.out.1 k_ (hs_).symm)) (fun hn_ => (Nat.le_trans (below_size (hB_t HB.out)) hn_)))); have n4_ := aM (hb); clear HO_0; clear HO_1; clear HO_7; clear HB; clear HO_8; have HO_0 := n0_; have HO_1 := n1_; have HO_7 := n2_; have HO335 := n3_; have HB := n4_; clear n0_ n1_ n2_ n3_ n4_; (try clear hb); (try clear hkp); (try clear ho0)))
           go_roundg kj11
           case measure => have := HK1.out; have := HJ11.out; omega
           case rel => exact ⟨(t333), (wrap64 (x9_1 + 1)), rT, H', ⟨by have := HK1.out; have := HJ11.out; omega⟩, ⟨Kd.V_t HO_0.out⟩, ⟨Kd.V_t HO_1.out⟩, ⟨Kd.R_t HO_7.out⟩, ⟨Kd.R_t HO335.out⟩, ⟨hB_t HB.out⟩⟩
          ·replace c29 := Bool.eq_false_iff.mpr c29; subst c29; have H1 : (if a2 = 2 then (if a2 = 3 then (arboristref03_both.l0 kj11 l0 l1 a2 t317 x8_1 (wrap64 (x9_1 + 1))) else (arboristref03_both.l0 kj11 l0 l1 a2 t317 x8_1 (wrap64 (x9_1 + 1)))) else (if a2 = 3 then (arboristref03_both.l0 kj11 l0 l1 a2 t317 x8_1 (wrap64 (x9_1 + 1))) else (arboristref03_both.l0 kj11 l0 l1 a2 t317 x8_1 (wrap64 (x9_1 + 1))))) = some r := by rw [if_neg (show ¬ (false = true) by decide)] at H; exact H
           clear H; have H := H1; clear H1
           by_cases c36 : a2 = 2
           ·rw [if_pos c36] at H; have c36b0 : (a2 == 2) = true := beq_iff_eq.mpr c36; have c36b1 : (a2 != 2) = false := bne_eq_false_iff_eq.mpr c36; clear c36
            by_cases c37 : a2 = 3
            ·rw [if_pos c37] at H; have c37b0 : (a2 == 3) = true := beq_iff_eq.mpr c37; have c37b1 : (a2 != 3) = false := bne_eq_false_iff_eq.mpr c37; clear c37; have H' := aM H; clear H; try go_wp2
             have n0_ := aM (Kd.V_drew HO_0.out); have n1_ := aM (Kd.V_drew HO_1.out); have n2_ := aM (Kd.R_drew HO_7.out); have n3_ := aM (Kd.R_drew HO_8.out); have n4_ := aM (below_drew1 HB.out); clear HO_0; clear HO_1; clear HO_7; clear HO_8; clear HB; have HO_0 := n0_; have HO_1 := n1_; have HO_7 := n2_; have HO_8 := n3_; have HB := n4_; clear n0_ n1_ n2_ n3_ n4_; have p324 : 0 ≤ (x9_1 : Int) := dT; have q324 : x9_1 < (t317.length : Int) := dT; obtain ⟨ad324, e324, hx324_0⟩ := Kd.at_int (Kd.R_reads' HO_7.out).2.2 x9_1 p324 q324; cases e324
             replace p324 := eq_true p324; replace q324 := eq_true q324; have p326 : 0 ≤ (x9_1 : Int) := dT; have q326 : x9_1 < (t317.length : Int) := dT; obtain ⟨ad326, e326, hx326_0⟩ := Kd.at_int (Kd.R_reads' HO_7.out).2.2 x9_1 p326 q326; obtain rfl : ad324 = ad326 := (by injection e326); replace p326 := eq_true p326; replace q326 := eq_true q326; refine start_ (n := 14) (S := fun w' => w'.cell? (ad324.add (x9_1).toNat) = some (.int .i32 (rd t317 x9_1)) ∧ w'.cell? (ad324.add (x9_1).toNat) = some (.int .i32 (rd t317 x9_1))) (ds := []) #[false, false, false, false, false, false, false, false, false, false, false, false, false, false] (by kernel_rfl) rfl rfl ⟨hx324_0, hx326_0⟩ (fun hHeld => ?_); refine with_tabW arboristref03_both.tab9 arboristref03_both.bits9 (fun HT_ HW_ => ?_); generalize wc.drew = w38 at HO_0 HO_1 HO_7 HO_8 HB hx324_0 hx326_0 hHeld ⊢; refine pure_ (i := 0) (N := some 35) (v := ?_) (a' := ?_) #[true, false, false, false, false, false, false, false, false, false, false, false, false, false] rfl rfl (any_of HT_.out (by kernel_rfl)) (fun _ _ _ h => h) (Or.inl ⟨by rfl, ?_⟩) ?_ ?_; rotate_left
             ·intro w'; go_simp; with_reducible rfl
             rotate_left
             ·simp only [Act.put, sA, sZ, sS, i64_w, i32_w]; rfl
             refine pure_ (i := 1) (N := some 36) (v := ?_) (a' := ?_) #[true, true, false, false, false, false, false, false, false, false, false, false, false, false] rfl rfl (any_of HT_.out (by kernel_rfl)) (fun _ _ _ h => h) (Or.inl ⟨by rfl, ?_⟩) ?_ ?_; rotate_left
             ·intro w'; go_simp; with_reducible rfl
             rotate_left
             ·simp only [Act.put, sA, sZ, sS, i64_w, i32_w]; rfl
             refine pure_ (i := 2) (N := some 37) (v := ?_) (a' := ?_) #[true, true, true, false, false, false, false, false, false, false, false, false, false, false] rfl rfl (any_of HT_.out (by kernel_rfl)) (fun _ _ _ h => h) (Or.inl ⟨by rfl, ?_⟩) ?_ ?_; rotate_left
             ·intro w'; go_simp; with_reducible rfl
             rotate_left
             ·simp only [Act.put, sA, sZ, sS, i64_w, i32_w]; rfl
             refine pure_ (i := 3) (N := some 38) (v := ?_) (a' := ?_) #[true, true, true, true, false, false, false, false, false, false, false, false, false, false] rfl rfl (any_of HT_.out (by kernel_rfl)) (fun _ _ _ h => h) (Or.inl ⟨by rfl, ?_⟩) ?_ ?_; rotate_left
             ·intro w'; go_simp; with_reducible rfl
             rotate_left
             ·simp only [Act.put, sA, sZ, sS, i64_w, i32_w]; rfl
             refine pure_ (i := 6) (N := some 41) (v := ?_) (a' := ?_) #[true, true, true, true, false, false, true, false, false, false, false, false, false, false] rfl rfl (any_of HT_.out (by kernel_rfl)) (fun _ _ _ h => h) (Or.inl ⟨by rfl, ?_⟩) ?_ ?_; rotate_left
             ·intro w'; go_simp; with_reducible rfl
             rotate_left
             ·simp only [Act.put, sA, sZ, sS, i64_w, i32_w]; rfl
             refine pure_ (i := 7) (N := some 42) (v := ?_) (a' := ?_) #[true, true, true, true, false, false, true, true, false, false, false, false, false, false] rfl rfl (any_of HT_.out (by kernel_rfl)) (fun _ _ _ h => h) (Or.inl ⟨by rfl, ?_⟩) ?_ ?_; rotate_left
             ·intro w'; go_simp; with_reducible rfl
             rotate_left
             ·simp only [Act.put, sA, sZ, sS, i64_w, i32_w]; rfl
             refine pure_ (i := 8) (N := some 43) (v := ?_) (a' := ?_) #[true, true, true, true, false, false, true, true, true, false, false, false, false, false] rfl rfl (any_of HT_.out (by kernel_rfl)) (fun _ _ _ h => h) (Or.inl ⟨by rfl, ?_⟩) ?_ ?_; rotate_left
             ·intro w'; go_simp; with_reducible rfl
             rotate_left
             ·simp only [Act.put, sA, sZ, sS, i64_w, i32_w]; rfl
             refine pure_ (i := 9) (N := some 44) (v := ?_) (a' := ?_) #[true, true, true, true, false, false, true, true, true, true, false, false, false, false] rfl rfl (any_of HT_.out (by kernel_rfl)) (fun _ _ _ h => h) (Or.inl ⟨by rfl, ?_⟩) ?_ ?_; rotate_left
             ·intro w'; go_simp; with_reducible rfl
             rotate_left
             ·simp only [Act.put, sA, sZ, sS, i64_w, i32_w]; rfl
             refine take_ (i := 4) (N := some 39) (v := ?_) (a' := ?_) #[true, true, true, true, true, false, true, true, true, true, false, false, false, false] rfl rfl (take_ofW HT_.out HW_.out (by kernel_rfl)) (fun _ _ _ h => h) (Or.inl ⟨by rfl, ?_⟩) hHeld ?_ ?_; rotate_left
             ·rintro w' ⟨s0, s1⟩; go_simp; with_reducible rfl
             rotate_left
             ·simp only [Act.put, sA, sZ, sS, i64_w, i32_w]; rfl
             refine take_ (i := 10) (N := some 45) (v := ?_) (a' := ?_) #[true, true, true, true, true, false, true, true, true, true, true, false, false, false] rfl rfl (take_ofW HT_.out HW_.out (by kernel_rfl)) (fun _ _ _ h => h) (Or.inl ⟨by rfl, ?_⟩) hHeld ?_ ?_; rotate_left
             ·rintro w' ⟨s0, s1⟩; go_simp; with_reducible rfl
             rotate_left
             ·simp only [Act.put, sA, sZ, sS, i64_w, i32_w]; rfl
             refine one_ (i := 5) (N := some 40) #[true, true, true, true, true, true, true, true, true, true, true, false, false, false] rfl rfl (one_of HT_.out (by kernel_rfl)) (by decide) (fun K hK => ?_); refine goes_ Try.func18 (by kernel_rfl) rfl #[.slice A0 l0.length c0, .int .i32 (rd t317 x9_1)] (by rfl) rfl rfl mT ?_; with_reducible refine (arboristref03_Has.calls kj11 _ _ l0 (rd t317 x9_1) false _ ?side1 ?side2 A19.out).mono ?_
             (case side1 => exact Kd.C_t ((Kd.V_reads' HO_0.out).2.2)); (case side2 => exact (Kd.V_reads' HO_0.out).2.1); rintro e w39 ⟨rfl, hb⟩; have HS0_ := (hb.cell (World.block_lt_of_cell? _ _ (hHeld.1))).trans (hHeld.1); have HS1_ := (hb.cell (World.block_lt_of_cell? _ _ (hHeld.2))).trans (hHeld.2); refine ⟨_, rfl, ?_⟩; have n0_ := aM (Kd.V_below (Kd.V_t HO_0.out) hb); have n1_ := aM (Kd.V_below (Kd.V_t HO_1.out) hb); have n2_ := aM (Kd.R_below (Kd.R_t HO_7.out) hb); have n3_ := aM (Kd.R_below (Kd.R_t HO_8.out) hb); have n4_ := aM (below_step (hB_t HB.out) hb); clear HO_0; clear HO_1; clear HO_7; clear HO_8; clear HB; have HO_0 := n0_; have HO_1 := n1_; have HO_7 := n2_; have HO_8 := n3_; have HB := n4_; clear n0_ n1_ n2_ n3_ n4_; (try clear hb); (try clear hb2); (try clear hk); (try clear hi); refine hK.out _ _ ⟨HS0_, HS1_⟩ (fun hHeld => ?_); clear hK K; refine norm_ (a' := ?_) ?_ ?_; rotate_left
             ·show Act.put _ (some 40) _ = _
              simp only [Act.put, sA, sZ, sS, i64_w, i32_w]; rfl
             refine one_ (i := 11) (N := some 46) #[true, true, true, true, true, true, true, true, true, true, true, true, false, false] rfl rfl (one_of HT_.out (by kernel_rfl)) (by decide) (fun K hK => ?_); refine goes_ Try.func18 (by kernel_rfl) rfl #[.slice A1 l1.length c1, .int .i32 (rd t317 x9_1)] (by rfl) rfl rfl mT ?_; with_reducible refine (arboristref03_Has.calls kj11 _ _ l1 (rd t317 x9_1) false _ ?side1 ?side2 A20.out).mono ?_
             (case side1 => exact Kd.C_t ((Kd.V_reads' HO_1.out).2.2)); (case side2 => exact (Kd.V_reads' HO_1.out).2.1); rintro e w40 ⟨rfl, hb⟩; have HS0_ := (hb.cell (World.block_lt_of_cell? _ _ (hHeld.1))).trans (hHeld.1); have HS1_ := (hb.cell (World.block_lt_of_cell? _ _ (hHeld.2))).trans (hHeld.2); refine ⟨_, rfl, ?_⟩; have n0_ := aM (Kd.V_below (Kd.V_t HO_0.out) hb); have n1_ := aM (Kd.V_below (Kd.V_t HO_1.out) hb); have n2_ := aM (Kd.R_below (Kd.R_t HO_7.out) hb); have n3_ := aM (Kd.R_below (Kd.R_t HO_8.out) hb); have n4_ := aM (below_step (hB_t HB.out) hb); clear HO_0; clear HO_1; clear HO_7; clear HO_8; clear HB; have HO_0 := n0_; have HO_1 := n1_; have HO_7 := n2_; have HO_8 := n3_; have HB := n4_; clear n0_ n1_ n2_ n3_ n4_; (try clear hb); (try clear hb2); (try clear hk); (try clear hi); refine hK.out _ _ ⟨HS0_, HS1_⟩ (fun hHeld => ?_); clear hK K; refine norm_ (a' := ?_) ?_ ?_; rotate_left
             ·show Act.put _ (some 46) _ = _
              simp only [Act.put, sA, sZ, sS, i64_w, i32_w]; rfl
             refine pure_ (i := 12) (N := some 11) (v := ?_) (a' := ?_) #[true, true, true, true, true, true, true, true, true, true, true, true, true, false] rfl rfl (any_of HT_.out (by kernel_rfl)) (fun _ _ _ h => h) (Or.inl ⟨by rfl, ?_⟩) ?_ ?_; rotate_left
             ·intro w'; go_simp; with_reducible rfl
             rotate_left
             ·simp only [Act.put, sA, sZ, sS, i64_w, i32_w]; rfl
             refine pure_ (i := 13) (N := some 12) (v := ?_) (a' := ?_) #[true, true, true, true, true, true, true, true, true, true, true, true, true, true] rfl rfl (any_of HT_.out (by kernel_rfl)) (fun _ _ _ h => h) (Or.inl ⟨by rfl, ?_⟩) ?_ ?_; rotate_left
             ·intro w'; go_simp; with_reducible rfl
             rotate_left
             ·simp only [Act.put, sA, sZ, sS, i64_w, i32_w]; rfl
             refine done_ (done_of HT_.out (by kernel_rfl)) ?_; try go_wp2
             go_roundg kj11
             case measure => have := HK1.out; have := HJ11.out; omega
             case rel => exact ⟨(x8_1), (wrap64 (x9_1 + 1)), rT, H', ⟨by have := HK1.out; have := HJ11.out; omega⟩, ⟨Kd.V_t HO_0.out⟩, ⟨Kd.V_t HO_1.out⟩, ⟨Kd.R_t HO_7.out⟩, ⟨Kd.R_t HO_8.out⟩, ⟨hB_t HB.out⟩⟩
            ·rw [if_neg c37] at H; have c37b0 : (a2 == 3) = false := beq_eq_false_iff_ne.mpr c37; have c37b1 : (a2 != 3) = true := bne_iff_ne.mpr c37; have H' := aM H; clear H; try go_wp2
             have n0_ := aM (Kd.V_drew HO_0.out); have n1_ := aM (Kd.V_drew HO_1.out); have n2_ := aM (Kd.R_drew HO_7.out); have n3_ := aM (Kd.R_drew HO_8.out); have n4_ := aM (below_drew1 HB.out); clear HO_0; clear HO_1; clear HO_7; clear HO_8; clear HB; have HO_0 := n0_; have HO_1 := n1_; have HO_7 := n2_; have HO_8 := n3_; have HB := n4_; clear n0_ n1_ n2_ n3_ n4_; have p324 : 0 ≤ (x9_1 : Int) := dT; have q324 : x9_1 < (t317.length : Int) := dT; obtain ⟨ad324, e324, hx324_0⟩ := Kd.at_int (Kd.R_reads' HO_7.out).2.2 x9_1 p324 q324; cases e324
             replace p324 := eq_true p324; replace q324 := eq_true q324; have p326 : 0 ≤ (x9_1 : Int) := dT; have q326 : x9_1 < (t317.length : Int) := dT; obtain ⟨ad326, e326, hx326_0⟩ := Kd.at_int (Kd.R_reads' HO_7.out).2.2 x9_1 p326 q326; obtain rfl : ad324 = ad326 := (by injection e326); replace p326 := eq_true p326; replace q326 := eq_true q326; refine start_ (n := 14) (S := fun w' => w'.cell? (ad324.add (x9_1).toNat) = some (.int .i32 (rd t317 x9_1)) ∧ w'.cell? (ad324.add (x9_1).toNat) = some (.int .i32 (rd t317 x9_1))) (ds := []) #[false, false, false, false, false, false, false, false, false, false, false, false, false, false] (by kernel_rfl) rfl rfl ⟨hx324_0, hx326_0⟩ (fun hHeld => ?_); refine with_tabW arboristref03_both.tab9 arboristref03_both.bits9 (fun HT_ HW_ => ?_); generalize wc.drew = w41 at HO_0 HO_1 HO_7 HO_8 HB hx324_0 hx326_0 hHeld ⊢; refine pure_ (i := 0) (N := some 35) (v := ?_) (a' := ?_) #[true, false, false, false, false, false, false, false, false, false, false, false, false, false] rfl rfl (any_of HT_.out (by kernel_rfl)) (fun _ _ _ h => h) (Or.inl ⟨by rfl, ?_⟩) ?_ ?_; rotate_left
             ·intro w'; go_simp; with_reducible rfl
             rotate_left
             ·simp only [Act.put, sA, sZ, sS, i64_w, i32_w]; rfl
             refine pure_ (i := 1) (N := some 36) (v := ?_) (a' := ?_) #[true, true, false, false, false, false, false, false, false, false, false, false, false, false] rfl rfl (any_of HT_.out (by kernel_rfl)) (fun _ _ _ h => h) (Or.inl ⟨by rfl, ?_⟩) ?_ ?_; rotate_left
             ·intro w'; go_simp; with_reducible rfl
             rotate_left
             ·simp only [Act.put, sA, sZ, sS, i64_w, i32_w]; rfl
             refine pure_ (i := 2) (N := some 37) (v := ?_) (a' := ?_) #[true, true, true, false, false, false, false, false, false, false, false, false, false, false] rfl rfl (any_of HT_.out (by kernel_rfl)) (fun _ _ _ h => h) (Or.inl ⟨by rfl, ?_⟩) ?_ ?_; rotate_left
             ·intro w'; go_simp; with_reducible rfl
             rotate_left
             ·simp only [Act.put, sA, sZ, sS, i64_w, i32_w]; rfl
             refine pure_ (i := 3) (N := some 38) (v := ?_) (a' := ?_) #[true, true, true, true, false, false, false, false, false, false, false, false, false, false] rfl rfl (any_of HT_.out (by kernel_rfl)) (fun _ _ _ h => h) (Or.inl ⟨by rfl, ?_⟩) ?_ ?_; rotate_left
             ·intro w'; go_simp; with_reducible rfl
             rotate_left
             ·simp only [Act.put, sA, sZ, sS, i64_w, i32_w]; rfl
             refine pure_ (i := 6) (N := some 41) (v := ?_) (a' := ?_) #[true, true, true, true, false, false, true, false, false, false, false, false, false, false] rfl rfl (any_of HT_.out (by kernel_rfl)) (fun _ _ _ h => h) (Or.inl ⟨by rfl, ?_⟩) ?_ ?_; rotate_left
             ·intro w'; go_simp; with_reducible rfl
             rotate_left
             ·simp only [Act.put, sA, sZ, sS, i64_w, i32_w]; rfl
             refine pure_ (i := 7) (N := some 42) (v := ?_) (a' := ?_) #[true, true, true, true, false, false, true, true, false, false, false, false, false, false] rfl rfl (any_of HT_.out (by kernel_rfl)) (fun _ _ _ h => h) (Or.inl ⟨by rfl, ?_⟩) ?_ ?_; rotate_left
             ·intro w'; go_simp; with_reducible rfl
             rotate_left
             ·simp only [Act.put, sA, sZ, sS, i64_w, i32_w]; rfl
             refine pure_ (i := 8) (N := some 43) (v := ?_) (a' := ?_) #[true, true, true, true, false, false, true, true, true, false, false, false, false, false] rfl rfl (any_of HT_.out (by kernel_rfl)) (fun _ _ _ h => h) (Or.inl ⟨by rfl, ?_⟩) ?_ ?_; rotate_left
             ·intro w'; go_simp; with_reducible rfl
             rotate_left
             ·simp only [Act.put, sA, sZ, sS, i64_w, i32_w]; rfl
             refine pure_ (i := 9) (N := some 44) (v := ?_) (a' := ?_) #[true, true, true, true, false, false, true, true, true, true, false, false, false, false] rfl rfl (any_of HT_.out (by kernel_rfl)) (fun _ _ _ h => h) (Or.inl ⟨by rfl, ?_⟩) ?_ ?_; rotate_left
             ·intro w'; go_simp; with_reducible rfl
             rotate_left
             ·simp only [Act.put, sA, sZ, sS, i64_w, i32_w]; rfl
             refine take_ (i := 4) (N := some 39) (v := ?_) (a' := ?_) #[true, true, true, true, true, false, true, true, true, true, false, false, false, false] rfl rfl (take_ofW HT_.out HW_.out (by kernel_rfl)) (fun _ _ _ h => h) (Or.inl ⟨by rfl, ?_⟩) hHeld ?_ ?_; rotate_left
             ·rintro w' ⟨s0, s1⟩; go_simp; with_reducible rfl
             rotate_left
             ·simp only [Act.put, sA, sZ, sS, i64_w, i32_w]; rfl
             refine take_ (i := 10) (N := some 45) (v := ?_) (a' := ?_) #[true, true, true, true, true, false, true, true, true, true, true, false, false, false] rfl rfl (take_ofW HT_.out HW_.out (by kernel_rfl)) (fun _ _ _ h => h) (Or.inl ⟨by rfl, ?_⟩) hHeld ?_ ?_; rotate_left
             ·rintro w' ⟨s0, s1⟩; go_simp; with_reducible rfl
             rotate_left
             ·simp only [Act.put, sA, sZ, sS, i64_w, i32_w]; rfl
             refine one_ (i := 5) (N := some 40) #[true, true, true, true, true, true, true, true, true, true, true, false, false, false] rfl rfl (one_of HT_.out (by kernel_rfl)) (by decide) (fun K hK => ?_); refine goes_ Try.func18 (by kernel_rfl) rfl #[.slice A0 l0.length c0, .int .i32 (rd t317 x9_1)] (by rfl) rfl rfl mT ?_; with_reducible refine (arboristref03_Has.calls kj11 _ _ l0 (rd t317 x9_1) false _ ?side1 ?side2 A19.out).mono ?_
             (case side1 => exact Kd.C_t ((Kd.V_reads' HO_0.out).2.2)); (case side2 => exact (Kd.V_reads' HO_0.out).2.1); rintro e w42 ⟨rfl, hb⟩; have HS0_ := (hb.cell (World.block_lt_of_cell? _ _ (hHeld.1))).trans (hHeld.1); have HS1_ := (hb.cell (World.block_lt_of_cell? _ _ (hHeld.2))).trans (hHeld.2); refine ⟨_, rfl, ?_⟩; have n0_ := aM (Kd.V_below (Kd.V_t HO_0.out) hb); have n1_ := aM (Kd.V_below (Kd.V_t HO_1.out) hb); have n2_ := aM (Kd.R_below (Kd.R_t HO_7.out) hb); have n3_ := aM (Kd.R_below (Kd.R_t HO_8.out) hb); have n4_ := aM (below_step (hB_t HB.out) hb); clear HO_0; clear HO_1; clear HO_7; clear HO_8; clear HB; have HO_0 := n0_; have HO_1 := n1_; have HO_7 := n2_; have HO_8 := n3_; have HB := n4_; clear n0_ n1_ n2_ n3_ n4_; (try clear hb); (try clear hb2); (try clear hk); (try clear hi); refine hK.out _ _ ⟨HS0_, HS1_⟩ (fun hHeld => ?_); clear hK K; refine norm_ (a' := ?_) ?_ ?_; rotate_left
             ·show Act.put _ (some 40) _ = _
              simp only [Act.put, sA, sZ, sS, i64_w, i32_w]; rfl
             refine one_ (i := 11) (N := some 46) #[true, true, true, true, true, true, true, true, true, true, true, true, false, false] rfl rfl (one_of HT_.out (by kernel_rfl)) (by decide) (fun K hK => ?_); refine goes_ Try.func18 (by kernel_rfl) rfl #[.slice A1 l1.length c1, .int .i32 (rd t317 x9_1)] (by rfl) rfl rfl mT ?_; with_reducible refine (arboristref03_Has.calls kj11 _ _ l1 (rd t317 x9_1) false _ ?side1 ?side2 A20.out).mono ?_
             (case side1 => exact Kd.C_t ((Kd.V_reads' HO_1.out).2.2)); (case side2 => exact (Kd.V_reads' HO_1.out).2.1); rintro e w43 ⟨rfl, hb⟩; have HS0_ := (hb.cell (World.block_lt_of_cell? _ _ (hHeld.1))).trans (hHeld.1); have HS1_ := (hb.cell (World.block_lt_of_cell? _ _ (hHeld.2))).trans (hHeld.2); refine ⟨_, rfl, ?_⟩; have n0_ := aM (Kd.V_below (Kd.V_t HO_0.out) hb); have n1_ := aM (Kd.V_below (Kd.V_t HO_1.out) hb); have n2_ := aM (Kd.R_below (Kd.R_t HO_7.out) hb); have n3_ := aM (Kd.R_below (Kd.R_t HO_8.out) hb); have n4_ := aM (below_step (hB_t HB.out) hb); clear HO_0; clear HO_1; clear HO_7; clear HO_8; clear HB; have HO_0 := n0_; have HO_1 := n1_; have HO_7 := n2_; have HO_8 := n3_; have HB := n4_; clear n0_ n1_ n2_ n3_ n4_; (try clear hb); (try clear hb2); (try clear hk); (try clear hi); refine hK.out _ _ ⟨HS0_, HS1_⟩ (fun hHeld => ?_); clear hK K; refine norm_ (a' := ?_) ?_ ?_; rotate_left
             ·show Act.put _ (some 46) _ = _
              simp only [Act.put, sA, sZ, sS, i64_w, i32_w]; rfl
             refine pure_ (i := 12) (N := some 11) (v := ?_) (a' := ?_) #[true, true, true, true, true, true, true, true, true, true, true, true, true, false] rfl rfl (any_of HT_.out (by kernel_rfl)) (fun _ _ _ h => h) (Or.inl ⟨by rfl, ?_⟩) ?_ ?_; rotate_left
             ·intro w'; go_simp; with_reducible rfl
             rotate_left
             ·simp only [Act.put, sA, sZ, sS, i64_w, i32_w]; rfl
             refine pure_ (i := 13) (N := some 12) (v := ?_) (a' := ?_) #[true, true, true, true, true, true, true, true, true, true, true, true, true, true] rfl rfl (any_of HT_.out (by kernel_rfl)) (fun _ _ _ h => h) (Or.inl ⟨by rfl, ?_⟩) ?_ ?_; rotate_left
             ·intro w'; go_simp; with_reducible rfl
             rotate_left
             ·simp only [Act.put, sA, sZ, sS, i64_w, i32_w]; rfl
             refine done_ (done_of HT_.out (by kernel_rfl)) ?_; try go_wp2
             go_roundg kj11
             case measure => have := HK1.out; have := HJ11.out; omega
             case rel => exact ⟨(x8_1), (wrap64 (x9_1 + 1)), rT, H', ⟨by have := HK1.out; have := HJ11.out; omega⟩, ⟨Kd.V_t HO_0.out⟩, ⟨Kd.V_t HO_1.out⟩, ⟨Kd.R_t HO_7.out⟩, ⟨Kd.R_t HO_8.out⟩, ⟨hB_t HB.out⟩⟩
           ·rw [if_neg c36] at H; have c36b0 : (a2 == 2) = false := beq_eq_false_iff_ne.mpr c36; have c36b1 : (a2 != 2) = true := bne_iff_ne.mpr c36
            by_cases c44 : a2 = 3
            ·rw [if_pos c44] at H; have c44b0 : (a2 == 3) = true := beq_iff_eq.mpr c44; have c44b1 : (a2 != 3) = false := bne_eq_false_iff_eq.mpr c44; clear c44; have H' := aM H; clear H; try go_wp2
             have n0_ := aM (Kd.V_drew HO_0.out); have n1_ := aM (Kd.V_drew HO_1.out); have n2_ := aM (Kd.R_drew HO_7.out); have n3_ := aM (Kd.R_drew HO_8.out); have n4_ := aM (below_drew1 HB.out); clear HO_0; clear HO_1; clear HO_7; clear HO_8; clear HB; have HO_0 := n0_; have HO_1 := n1_; have HO_7 := n2_; have HO_8 := n3_; have HB := n4_; clear n0_ n1_ n2_ n3_ n4_; have p324 : 0 ≤ (x9_1 : Int) := dT; have q324 : x9_1 < (t317.length : Int) := dT; obtain ⟨ad324, e324, hx324_0⟩ := Kd.at_int (Kd.R_reads' HO_7.out).2.2 x9_1 p324 q324; cases e324
             replace p324 := eq_true p324; replace q324 := eq_true q324; have p326 : 0 ≤ (x9_1 : Int) := dT; have q326 : x9_1 < (t317.length : Int) := dT; obtain ⟨ad326, e326, hx326_0⟩ := Kd.at_int (Kd.R_reads' HO_7.out).2.2 x9_1 p326 q326; obtain rfl : ad324 = ad326 := (by injection e326); replace p326 := eq_true p326; replace q326 := eq_true q326; refine start_ (n := 14) (S := fun w' => w'.cell? (ad324.add (x9_1).toNat) = some (.int .i32 (rd t317 x9_1)) ∧ w'.cell? (ad324.add (x9_1).toNat) = some (.int .i32 (rd t317 x9_1))) (ds := []) #[false, false, false, false, false, false, false, false, false, false, false, false, false, false] (by kernel_rfl) rfl rfl ⟨hx324_0, hx326_0⟩ (fun hHeld => ?_); refine with_tabW arboristref03_both.tab9 arboristref03_both.bits9 (fun HT_ HW_ => ?_); generalize wc.drew = w45 at HO_0 HO_1 HO_7 HO_8 HB hx324_0 hx326_0 hHeld ⊢; refine pure_ (i := 0) (N := some 35) (v := ?_) (a' := ?_) #[true, false, false, false, false, false, false, false, false, false, false, false, false, false] rfl rfl (any_of HT_.out (by kernel_rfl)) (fun _ _ _ h => h) (Or.inl ⟨by rfl, ?_⟩) ?_ ?_; rotate_left
             ·intro w'; go_simp; with_reducible rfl
             rotate_left
             ·simp only [Act.put, sA, sZ, sS, i64_w, i32_w]; rfl
             refine pure_ (i := 1) (N := some 36) (v := ?_) (a' := ?_) #[true, true, false, false, false, false, false, false, false, false, false, false, false, false] rfl rfl (any_of HT_.out (by kernel_rfl)) (fun _ _ _ h => h) (Or.inl ⟨by rfl, ?_⟩) ?_ ?_; rotate_left
             ·intro w'; go_simp; with_reducible rfl
             rotate_left
             ·simp only [Act.put, sA, sZ, sS, i64_w, i32_w]; rfl
             refine pure_ (i := 2) (N := some 37) (v := ?_) (a' := ?_) #[true, true, true, false, false, false, false, false, false, false, false, false, false, false] rfl rfl (any_of HT_.out (by kernel_rfl)) (fun _ _ _ h => h) (Or.inl ⟨by rfl, ?_⟩) ?_ ?_; rotate_left
             ·intro w'; go_simp; with_reducible rfl
             rotate_left
             ·simp only [Act.put, sA, sZ, sS, i64_w, i32_w]; rfl
             refine pure_ (i := 3) (N := some 38) (v := ?_) (a' := ?_) #[true, true, true, true, false, false, false, false, false, false, false, false, false, false] rfl rfl (any_of HT_.out (by kernel_rfl)) (fun _ _ _ h => h) (Or.inl ⟨by rfl, ?_⟩) ?_ ?_; rotate_left
             ·intro w'; go_simp; with_reducible rfl
             rotate_left
             ·simp only [Act.put, sA, sZ, sS, i64_w, i32_w]; rfl
             refine pure_ (i := 6) (N := some 41) (v := ?_) (a' := ?_) #[true, true, true, true, false, false, true, false, false, false, false, false, false, false] rfl rfl (any_of HT_.out (by kernel_rfl)) (fun _ _ _ h => h) (Or.inl ⟨by rfl, ?_⟩) ?_ ?_; rotate_left
             ·intro w'; go_simp; with_reducible rfl
             rotate_left
             ·simp only [Act.put, sA, sZ, sS, i64_w, i32_w]; rfl
             refine pure_ (i := 7) (N := some 42) (v := ?_) (a' := ?_) #[true, true, true, true, false, false, true, true, false, false, false, false, false, false] rfl rfl (any_of HT_.out (by kernel_rfl)) (fun _ _ _ h => h) (Or.inl ⟨by rfl, ?_⟩) ?_ ?_; rotate_left
             ·intro w'; go_simp; with_reducible rfl
             rotate_left
             ·simp only [Act.put, sA, sZ, sS, i64_w, i32_w]; rfl
             refine pure_ (i := 8) (N := some 43) (v := ?_) (a' := ?_) #[true, true, true, true, false, false, true, true, true, false, false, false, false, false] rfl rfl (any_of HT_.out (by kernel_rfl)) (fun _ _ _ h => h) (Or.inl ⟨by rfl, ?_⟩) ?_ ?_; rotate_left
             ·intro w'; go_simp; with_reducible rfl
             rotate_left
             ·simp only [Act.put, sA, sZ, sS, i64_w, i32_w]; rfl
             refine pure_ (i := 9) (N := some 44) (v := ?_) (a' := ?_) #[true, true, true, true, false, false, true, true, true, true, false, false, false, false] rfl rfl (any_of HT_.out (by kernel_rfl)) (fun _ _ _ h => h) (Or.inl ⟨by rfl, ?_⟩) ?_ ?_; rotate_left
             ·intro w'; go_simp; with_reducible rfl
             rotate_left
             ·simp only [Act.put, sA, sZ, sS, i64_w, i32_w]; rfl
             refine take_ (i := 4) (N := some 39) (v := ?_) (a' := ?_) #[true, true, true, true, true, false, true, true, true, true, false, false, false, false] rfl rfl (take_ofW HT_.out HW_.out (by kernel_rfl)) (fun _ _ _ h => h) (Or.inl ⟨by rfl, ?_⟩) hHeld ?_ ?_; rotate_left
             ·rintro w' ⟨s0, s1⟩; go_simp; with_reducible rfl
             rotate_left
             ·simp only [Act.put, sA, sZ, sS, i64_w, i32_w]; rfl
             refine take_ (i := 10) (N := some 45) (v := ?_) (a' := ?_) #[true, true, true, true, true, false, true, true, true, true, true, false, false, false] rfl rfl (take_ofW HT_.out HW_.out (by kernel_rfl)) (fun _ _ _ h => h) (Or.inl ⟨by rfl, ?_⟩) hHeld ?_ ?_; rotate_left
             ·rintro w' ⟨s0, s1⟩; go_simp; with_reducible rfl
             rotate_left
             ·simp only [Act.put, sA, sZ, sS, i64_w, i32_w]; rfl
             refine one_ (i := 5) (N := some 40) #[true, true, true, true, true, true, true, true, true, true, true, false, false, false] rfl rfl (one_of HT_.out (by kernel_rfl)) (by decide) (fun K hK => ?_); refine goes_ Try.func18 (by kernel_rfl) rfl #[.slice A0 l0.length c0, .int .i32 (rd t317 x9_1)] (by rfl) rfl rfl mT ?_; with_reducible refine (arboristref03_Has.calls kj11 _ _ l0 (rd t317 x9_1) false _ ?side1 ?side2 A19.out).mono ?_
             (case side1 => exact Kd.C_t ((Kd.V_reads' HO_0.out).2.2)); (case side2 => exact (Kd.V_reads' HO_0.out).2.1); rintro e w46 ⟨rfl, hb⟩; have HS0_ := (hb.cell (World.block_lt_of_cell? _ _ (hHeld.1))).trans (hHeld.1); have HS1_ := (hb.cell (World.block_lt_of_cell? _ _ (hHeld.2))).trans (hHeld.2); refine ⟨_, rfl, ?_⟩; have n0_ := aM (Kd.V_below (Kd.V_t HO_0.out) hb); have n1_ := aM (Kd.V_below (Kd.V_t HO_1.out) hb); have n2_ := aM (Kd.R_below (Kd.R_t HO_7.out) hb); have n3_ := aM (Kd.R_below (Kd.R_t HO_8.out) hb); have n4_ := aM (below_step (hB_t HB.out) hb); clear HO_0; clear HO_1; clear HO_7; clear HO_8; clear HB; have HO_0 := n0_; have HO_1 := n1_; have HO_7 := n2_; have HO_8 := n3_; have HB := n4_; clear n0_ n1_ n2_ n3_ n4_; (try clear hb); (try clear hb2); (try clear hk); (try clear hi); refine hK.out _ _ ⟨HS0_, HS1_⟩ (fun hHeld => ?_); clear hK K; refine norm_ (a' := ?_) ?_ ?_; rotate_left
             ·show Act.put _ (some 40) _ = _
              simp only [Act.put, sA, sZ, sS, i64_w, i32_w]; rfl
             refine one_ (i := 11) (N := some 46) #[true, true, true, true, true, true, true, true, true, true, true, true, false, false] rfl rfl (one_of HT_.out (by kernel_rfl)) (by decide) (fun K hK => ?_); refine goes_ Try.func18 (by kernel_rfl) rfl #[.slice A1 l1.length c1, .int .i32 (rd t317 x9_1)] (by rfl) rfl rfl mT ?_; with_reducible refine (arboristref03_Has.calls kj11 _ _ l1 (rd t317 x9_1) false _ ?side1 ?side2 A20.out).mono ?_
             (case side1 => exact Kd.C_t ((Kd.V_reads' HO_1.out).2.2)); (case side2 => exact (Kd.V_reads' HO_1.out).2.1); rintro e w47 ⟨rfl, hb⟩; have HS0_ := (hb.cell (World.block_lt_of_cell? _ _ (hHeld.1))).trans (hHeld.1); have HS1_ := (hb.cell (World.block_lt_of_cell? _ _ (hHeld.2))).trans (hHeld.2); refine ⟨_, rfl, ?_⟩; have n0_ := aM (Kd.V_below (Kd.V_t HO_0.out) hb); have n1_ := aM (Kd.V_below (Kd.V_t HO_1.out) hb); have n2_ := aM (Kd.R_below (Kd.R_t HO_7.out) hb); have n3_ := aM (Kd.R_below (Kd.R_t HO_8.out) hb); have n4_ := aM (below_step (hB_t HB.out) hb); clear HO_0; clear HO_1; clear HO_7; clear HO_8; clear HB; have HO_0 := n0_; have HO_1 := n1_; have HO_7 := n2_; have HO_8 := n3_; have HB := n4_; clear n0_ n1_ n2_ n3_ n4_; (try clear hb); (try clear hb2); (try clear hk); (try clear hi); refine hK.out _ _ ⟨HS0_, HS1_⟩ (fun hHeld => ?_); clear hK K; refine norm_ (a' := ?_) ?_ ?_; rotate_left
             ·show Act.put _ (some 46) _ = _
              simp only [Act.put, sA, sZ, sS, i64_w, i32_w]; rfl
             refine pure_ (i := 12) (N := some 11) (v := ?_) (a' := ?_) #[true, true, true, true, true, true, true, true, true, true, true, true, true, false] rfl rfl (any_of HT_.out (by kernel_rfl)) (fun _ _ _ h => h) (Or.inl ⟨by rfl, ?_⟩) ?_ ?_; rotate_left
             ·intro w'; go_simp; with_reducible rfl
             rotate_left
             ·simp only [Act.put, sA, sZ, sS, i64_w, i32_w]; rfl
             refine pure_ (i := 13) (N := some 12) (v := ?_) (a' := ?_) #[true, true, true, true, true, true, true, true, true, true, true, true, true, true] rfl rfl (any_of HT_.out (by kernel_rfl)) (fun _ _ _ h => h) (Or.inl ⟨by rfl, ?_⟩) ?_ ?_; rotate_left
             ·intro w'; go_simp; with_reducible rfl
             rotate_left
             ·simp only [Act.put, sA, sZ, sS, i64_w, i32_w]; rfl
             refine done_ (done_of HT_.out (by kernel_rfl)) ?_; try go_wp2
             go_roundg kj11
             case measure => have := HK1.out; have := HJ11.out; omega
             case rel => exact ⟨(x8_1), (wrap64 (x9_1 + 1)), rT, H', ⟨by have := HK1.out; have := HJ11.out; omega⟩, ⟨Kd.V_t HO_0.out⟩, ⟨Kd.V_t HO_1.out⟩, ⟨Kd.R_t HO_7.out⟩, ⟨Kd.R_t HO_8.out⟩, ⟨hB_t HB.out⟩⟩
            ·rw [if_neg c44] at H; have c44b0 : (a2 == 3) = false := beq_eq_false_iff_ne.mpr c44; have c44b1 : (a2 != 3) = true := bne_iff_ne.mpr c44; have H' := aM H; clear H; try go_wp2
             have n0_ := aM (Kd.V_drew HO_0.out); have n1_ := aM (Kd.V_drew HO_1.out); have n2_ := aM (Kd.R_drew HO_7.out); have n3_ := aM (Kd.R_drew HO_8.out); have n4_ := aM (below_drew1 HB.out); clear HO_0; clear HO_1; clear HO_7; clear HO_8; clear HB; have HO_0 := n0_; have HO_1 := n1_; have HO_7 := n2_; have HO_8 := n3_; have HB := n4_; clear n0_ n1_ n2_ n3_ n4_; have p324 : 0 ≤ (x9_1 : Int) := dT; have q324 : x9_1 < (t317.length : Int) := dT; obtain ⟨ad324, e324, hx324_0⟩ := Kd.at_int (Kd.R_reads' HO_7.out).2.2 x9_1 p324 q324; cases e324
             replace p324 := eq_true p324; replace q324 := eq_true q324; have p326 : 0 ≤ (x9_1 : Int) := dT; have q326 : x9_1 < (t317.length : Int) := dT; obtain ⟨ad326, e326, hx326_0⟩ := Kd.at_int (Kd.R_reads' HO_7.out).2.2 x9_1 p326 q326; obtain rfl : ad324 = ad326 := (by injection e326); replace p326 := eq_true p326; replace q326 := eq_true q326; refine start_ (n := 14) (S := fun w' => w'.cell? (ad324.add (x9_1).toNat) = some (.int .i32 (rd t317 x9_1)) ∧ w'.cell? (ad324.add (x9_1).toNat) = some (.int .i32 (rd t317 x9_1))) (ds := []) #[false, false, false, false, false, false, false, false, false, false, false, false, false, false] (by kernel_rfl) rfl rfl ⟨hx324_0, hx326_0⟩ (fun hHeld => ?_); refine with_tabW arboristref03_both.tab9 arboristref03_both.bits9 (fun HT_ HW_ => ?_); generalize wc.drew = w48 at HO_0 HO_1 HO_7 HO_8 HB hx324_0 hx326_0 hHeld ⊢; refine pure_ (i := 0) (N := some 35) (v := ?_) (a' := ?_) #[true, false, false, false, false, false, false, false, false, false, false, false, false, false] rfl rfl (any_of HT_.out (by kernel_rfl)) (fun _ _ _ h => h) (Or.inl ⟨by rfl, ?_⟩) ?_ ?_; rotate_left
             ·intro w'; go_simp; with_reducible rfl
             rotate_left
             ·simp only [Act.put, sA, sZ, sS, i64_w, i32_w]; rfl
             refine pure_ (i := 1) (N := some 36) (v := ?_) (a' := ?_) #[true, true, false, false, false, false, false, false, false, false, false, false, false, false] rfl rfl (any_of HT_.out (by kernel_rfl)) (fun _ _ _ h => h) (Or.inl ⟨by rfl, ?_⟩) ?_ ?_; rotate_left
             ·intro w'; go_simp; with_reducible rfl
             rotate_left
             ·simp only [Act.put, sA, sZ, sS, i64_w, i32_w]; rfl
             refine pure_ (i := 2) (N := some 37) (v := ?_) (a' := ?_) #[true, true, true, false, false, false, false, false, false, false, false, false, false, false] rfl rfl (any_of HT_.out (by kernel_rfl)) (fun _ _ _ h => h) (Or.inl ⟨by rfl, ?_⟩) ?_ ?_; rotate_left
             ·intro w'; go_simp; with_reducible rfl
             rotate_left
             ·simp only [Act.put, sA, sZ, sS, i64_w, i32_w]; rfl
             refine pure_ (i := 3) (N := some 38) (v := ?_) (a' := ?_) #[true, true, true, true, false, false, false, false, false, false, false, false, false, false] rfl rfl (any_of HT_.out (by kernel_rfl)) (fun _ _ _ h => h) (Or.inl ⟨by rfl, ?_⟩) ?_ ?_; rotate_left
             ·intro w'; go_simp; with_reducible rfl
             rotate_left
             ·simp only [Act.put, sA, sZ, sS, i64_w, i32_w]; rfl
             refine pure_ (i := 6) (N := some 41) (v := ?_) (a' := ?_) #[true, true, true, true, false, false, true, false, false, false, false, false, false, false] rfl rfl (any_of HT_.out (by kernel_rfl)) (fun _ _ _ h => h) (Or.inl ⟨by rfl, ?_⟩) ?_ ?_; rotate_left
             ·intro w'; go_simp; with_reducible rfl
             rotate_left
             ·simp only [Act.put, sA, sZ, sS, i64_w, i32_w]; rfl
             refine pure_ (i := 7) (N := some 42) (v := ?_) (a' := ?_) #[true, true, true, true, false, false, true, true, false, false, false, false, false, false] rfl rfl (any_of HT_.out (by kernel_rfl)) (fun _ _ _ h => h) (Or.inl ⟨by rfl, ?_⟩) ?_ ?_; rotate_left
             ·intro w'; go_simp; with_reducible rfl
             rotate_left
             ·simp only [Act.put, sA, sZ, sS, i64_w, i32_w]; rfl
             refine pure_ (i := 8) (N := some 43) (v := ?_) (a' := ?_) #[true, true, true, true, false, false, true, true, true, false, false, false, false, false] rfl rfl (any_of HT_.out (by kernel_rfl)) (fun _ _ _ h => h) (Or.inl ⟨by rfl, ?_⟩) ?_ ?_; rotate_left
             ·intro w'; go_simp; with_reducible rfl
             rotate_left
             ·simp only [Act.put, sA, sZ, sS, i64_w, i32_w]; rfl
             refine pure_ (i := 9) (N := some 44) (v := ?_) (a' := ?_) #[true, true, true, true, false, false, true, true, true, true, false, false, false, false] rfl rfl (any_of HT_.out (by kernel_rfl)) (fun _ _ _ h => h) (Or.inl ⟨by rfl, ?_⟩) ?_ ?_; rotate_left
             ·intro w'; go_simp; with_reducible rfl
             rotate_left
             ·simp only [Act.put, sA, sZ, sS, i64_w, i32_w]; rfl
             refine take_ (i := 4) (N := some 39) (v := ?_) (a' := ?_) #[true, true, true, true, true, false, true, true, true, true, false, false, false, false] rfl rfl (take_ofW HT_.out HW_.out (by kernel_rfl)) (fun _ _ _ h => h) (Or.inl ⟨by rfl, ?_⟩) hHeld ?_ ?_; rotate_left
             ·rintro w' ⟨s0, s1⟩; go_simp; with_reducible rfl
             rotate_left
             ·simp only [Act.put, sA, sZ, sS, i64_w, i32_w]; rfl
             refine take_ (i := 10) (N := some 45) (v := ?_) (a' := ?_) #[true, true, true, true, true, false, true, true, true, true, true, false, false, false] rfl rfl (take_ofW HT_.out HW_.out (by kernel_rfl)) (fun _ _ _ h => h) (Or.inl ⟨by rfl, ?_⟩) hHeld ?_ ?_; rotate_left
             ·rintro w' ⟨s0, s1⟩; go_simp; with_reducible rfl
             rotate_left
             ·simp only [Act.put, sA, sZ, sS, i64_w, i32_w]; rfl
             refine one_ (i := 5) (N := some 40) #[true, true, true, true, true, true, true, true, true, true, true, false, false, false] rfl rfl (one_of HT_.out (by kernel_rfl)) (by decide) (fun K hK => ?_); refine goes_ Try.func18 (by kernel_rfl) rfl #[.slice A0 l0.length c0, .int .i32 (rd t317 x9_1)] (by rfl) rfl rfl mT ?_; with_reducible refine (arboristref03_Has.calls kj11 _ _ l0 (rd t317 x9_1) false _ ?side1 ?side2 A19.out).mono ?_
             (case side1 => exact Kd.C_t ((Kd.V_reads' HO_0.out).2.2)); (case side2 => exact (Kd.V_reads' HO_0.out).2.1); rintro e w49 ⟨rfl, hb⟩; have HS0_ := (hb.cell (World.block_lt_of_cell? _ _ (hHeld.1))).trans (hHeld.1); have HS1_ := (hb.cell (World.block_lt_of_cell? _ _ (hHeld.2))).trans (hHeld.2); refine ⟨_, rfl, ?_⟩; have n0_ := aM (Kd.V_below (Kd.V_t HO_0.out) hb); have n1_ := aM (Kd.V_below (Kd.V_t HO_1.out) hb); have n2_ := aM (Kd.R_below (Kd.R_t HO_7.out) hb); have n3_ := aM (Kd.R_below (Kd.R_t HO_8.out) hb); have n4_ := aM (below_step (hB_t HB.out) hb); clear HO_0; clear HO_1; clear HO_7; clear HO_8; clear HB; have HO_0 := n0_; have HO_1 := n1_; have HO_7 := n2_; have HO_8 := n3_; have HB := n4_; clear n0_ n1_ n2_ n3_ n4_; (try clear hb); (try clear hb2); (try clear hk); (try clear hi); refine hK.out _ _ ⟨HS0_, HS1_⟩ (fun hHeld => ?_); clear hK K; refine norm_ (a' := ?_) ?_ ?_; rotate_left
             ·show Act.put _ (some 40) _ = _
              simp only [Act.put, sA, sZ, sS, i64_w, i32_w]; rfl
             refine one_ (i := 11) (N := some 46) #[true, true, true, true, true, true, true, true, true, true, true, true, false, false] rfl rfl (one_of HT_.out (by kernel_rfl)) (by decide) (fun K hK => ?_); refine goes_ Try.func18 (by kernel_rfl) rfl #[.slice A1 l1.length c1, .int .i32 (rd t317 x9_1)] (by rfl) rfl rfl mT ?_; with_reducible refine (arboristref03_Has.calls kj11 _ _ l1 (rd t317 x9_1) false _ ?side1 ?side2 A20.out).mono ?_
             (case side1 => exact Kd.C_t ((Kd.V_reads' HO_1.out).2.2)); (case side2 => exact (Kd.V_reads' HO_1.out).2.1); rintro e w50 ⟨rfl, hb⟩; have HS0_ := (hb.cell (World.block_lt_of_cell? _ _ (hHeld.1))).trans (hHeld.1); have HS1_ := (hb.cell (World.block_lt_of_cell? _ _ (hHeld.2))).trans (hHeld.2); refine ⟨_, rfl, ?_⟩; have n0_ := aM (Kd.V_below (Kd.V_t HO_0.out) hb); have n1_ := aM (Kd.V_below (Kd.V_t HO_1.out) hb); have n2_ := aM (Kd.R_below (Kd.R_t HO_7.out) hb); have n3_ := aM (Kd.R_below (Kd.R_t HO_8.out) hb); have n4_ := aM (below_step (hB_t HB.out) hb); clear HO_0; clear HO_1; clear HO_7; clear HO_8; clear HB; have HO_0 := n0_; have HO_1 := n1_; have HO_7 := n2_; have HO_8 := n3_; have HB := n4_; clear n0_ n1_ n2_ n3_ n4_; (try clear hb); (try clear hb2); (try clear hk); (try clear hi); refine hK.out _ _ ⟨HS0_, HS1_⟩ (fun hHeld => ?_); clear hK K; refine norm_ (a' := ?_) ?_ ?_; rotate_left
             ·show Act.put _ (some 46) _ = _
              simp only [Act.put, sA, sZ, sS, i64_w, i32_w]; rfl
             refine pure_ (i := 12) (N := some 11) (v := ?_) (a' := ?_) #[true, true, true, true, true, true, true, true, true, true, true, true, true, false] rfl rfl (any_of HT_.out (by kernel_rfl)) (fun _ _ _ h => h) (Or.inl ⟨by rfl, ?_⟩) ?_ ?_; rotate_left
             ·intro w'; go_simp; with_reducible rfl
             rotate_left
             ·simp only [Act.put, sA, sZ, sS, i64_w, i32_w]; rfl
             refine pure_ (i := 13) (N := some 12) (v := ?_) (a' := ?_) #[true, true, true, true, true, true, true, true, true, true, true, true, true, true] rfl rfl (any_of HT_.out (by kernel_rfl)) (fun _ _ _ h => h) (Or.inl ⟨by rfl, ?_⟩) ?_ ?_; rotate_left
             ·intro w'; go_simp; with_reducible rfl
             rotate_left
             ·simp only [Act.put, sA, sZ, sS, i64_w, i32_w]; rfl
             refine done_ (done_of HT_.out (by kernel_rfl)) ?_; try go_wp2
             go_roundg kj11
             case measure => have := HK1.out; have := HJ11.out; omega
             case rel => exact ⟨(x8_1), (wrap64 (x9_1 + 1)), rT, H', ⟨by have := HK1.out; have := HJ11.out; omega⟩, ⟨Kd.V_t HO_0.out⟩, ⟨Kd.V_t HO_1.out⟩, ⟨Kd.R_t HO_7.out⟩, ⟨Kd.R_t HO_8.out⟩, ⟨hB_t HB.out⟩⟩
        ·rw [if_neg c21] at H; have c21b0 : (a2 == 1) = false := beq_eq_false_iff_ne.mpr c21; have c21b1 : (a2 != 1) = true := bne_iff_ne.mpr c21
         by_cases c51 : a2 = 2
         ·rw [if_pos c51] at H; have c51b0 : (a2 == 2) = true := beq_iff_eq.mpr c51; have c51b1 : (a2 != 2) = false := bne_eq_false_iff_eq.mpr c51; clear c51
          by_cases c52 : t325 = true
          ·subst c52; have H1 : (if t327 = true then ((arboristref03_join.f x8_1 (rd t317 x9_1) x10_11).bind fun t337 => (arboristref03_both.l0 kj11 l0 l1 a2 t317 t337 (wrap64 (x9_1 + 1)))) else (if a2 = 3 then ((arboristref03_join.f x8_1 (rd t317 x9_1) x10_11).bind fun t341 => (arboristref03_both.l0 kj11 l0 l1 a2 t317 t341 (wrap64 (x9_1 + 1)))) else (arboristref03_both.l0 kj11 l0 l1 a2 t317 x8_1 (wrap64 (x9_1 + 1))))) = some r := by rw [if_pos rfl] at H; exact H
           clear H; have H := H1; clear H1
           by_cases c53 : t327 = true
           ·subst c53; have H1 : ((arboristref03_join.f x8_1 (rd t317 x9_1) x10_11).bind fun t337 => (arboristref03_both.l0 kj11 l0 l1 a2 t317 t337 (wrap64 (x9_1 + 1)))) = some r := by rw [if_pos rfl] at H; exact H
            clear H; have H := H1; clear H1; replace H := Option.bind_eq_some_iff.mp H; obtain ⟨t337, A540, H⟩ := H; replace H : (arboristref03_both.l0 kj11 l0 l1 a2 t317 t337 (wrap64 (x9_1 + 1))) = some r := H; have A54 := aM A540; clear A540; have H' := aM H; clear H; try go_wp2
            have n0_ := aM (Kd.V_drew HO_0.out); have n1_ := aM (Kd.V_drew HO_1.out); have n2_ := aM (Kd.R_drew HO_7.out); have n3_ := aM (Kd.R_drew HO_8.out); have n4_ := aM (below_drew1 HB.out); clear HO_0; clear HO_1; clear HO_7; clear HO_8; clear HB; have HO_0 := n0_; have HO_1 := n1_; have HO_7 := n2_; have HO_8 := n3_; have HB := n4_; clear n0_ n1_ n2_ n3_ n4_; have p324 : 0 ≤ (x9_1 : Int) := dT; have q324 : x9_1 < (t317.length : Int) := dT; obtain ⟨ad324, e324, hx324_0⟩ := Kd.at_int (Kd.R_reads' HO_7.out).2.2 x9_1 p324 q324; cases e324
            replace p324 := eq_true p324; replace q324 := eq_true q324; have p326 : 0 ≤ (x9_1 : Int) := dT; have q326 : x9_1 < (t317.length : Int) := dT; obtain ⟨ad326, e326, hx326_0⟩ := Kd.at_int (Kd.R_reads' HO_7.out).2.2 x9_1 p326 q326; obtain rfl : ad324 = ad326 := (by injection e326); replace p326 := eq_true p326; replace q326 := eq_true q326; refine start_ (n := 14) (S := fun w' => w'.cell? (ad324.add (x9_1).toNat) = some (.int .i32 (rd t317 x9_1)) ∧ w'.cell? (ad324.add (x9_1).toNat) = some (.int .i32 (rd t317 x9_1))) (ds := []) #[false, false, false, false, false, false, false, false, false, false, false, false, false, false] (by kernel_rfl) rfl rfl ⟨hx324_0, hx326_0⟩ (fun hHeld => ?_); refine with_tabW arboristref03_both.tab9 arboristref03_both.bits9 (fun HT_ HW_ => ?_); generalize wc.drew = w55 at HO_0 HO_1 HO_7 HO_8 HB hx324_0 hx326_0 hHeld ⊢; refine pure_ (i := 0) (N := some 35) (v := ?_) (a' := ?_) #[true, false, false, false, false, false, false, false, false, false, false, false, false, false] rfl rfl (any_of HT_.out (by kernel_rfl)) (fun _ _ _ h => h) (Or.inl ⟨by rfl, ?_⟩) ?_ ?_; rotate_left
            ·intro w'; go_simp; with_reducible rfl
            rotate_left
            ·simp only [Act.put, sA, sZ, sS, i64_w, i32_w]; rfl
            refine pure_ (i := 1) (N := some 36) (v := ?_) (a' := ?_) #[true, true, false, false, false, false, false, false, false, false, false, false, false, false] rfl rfl (any_of HT_.out (by kernel_rfl)) (fun _ _ _ h => h) (Or.inl ⟨by rfl, ?_⟩) ?_ ?_; rotate_left
            ·intro w'; go_simp; with_reducible rfl
            rotate_left
            ·simp only [Act.put, sA, sZ, sS, i64_w, i32_w]; rfl
            refine pure_ (i := 2) (N := some 37) (v := ?_) (a' := ?_) #[true, true, true, false, false, false, false, false, false, false, false, false, false, false] rfl rfl (any_of HT_.out (by kernel_rfl)) (fun _ _ _ h => h) (Or.inl ⟨by rfl, ?_⟩) ?_ ?_; rotate_left
            ·intro w'; go_simp; with_reducible rfl
            rotate_left
            ·simp only [Act.put, sA, sZ, sS, i64_w, i32_w]; rfl
            refine pure_ (i := 3) (N := some 38) (v := ?_) (a' := ?_) #[true, true, true, true, false, false, false, false, false, false, false, false, false, false] rfl rfl (any_of HT_.out (by kernel_rfl)) (fun _ _ _ h => h) (Or.inl ⟨by rfl, ?_⟩) ?_ ?_; rotate_left
            ·intro w'; go_simp; with_reducible rfl
            rotate_left
            ·simp only [Act.put, sA, sZ, sS, i64_w, i32_w]; rfl
            refine pure_ (i := 6) (N := some 41) (v := ?_) (a' := ?_) #[true, true, true, true, false, false, true, false, false, false, false, false, false, false] rfl rfl (any_of HT_.out (by kernel_rfl)) (fun _ _ _ h => h) (Or.inl ⟨by rfl, ?_⟩) ?_ ?_; rotate_left
            ·intro w'; go_simp; with_reducible rfl
            rotate_left
            ·simp only [Act.put, sA, sZ, sS, i64_w, i32_w]; rfl
            refine pure_ (i := 7) (N := some 42) (v := ?_) (a' := ?_) #[true, true, true, true, false, false, true, true, false, false, false, false, false, false] rfl rfl (any_of HT_.out (by kernel_rfl)) (fun _ _ _ h => h) (Or.inl ⟨by rfl, ?_⟩) ?_ ?_; rotate_left
            ·intro w'; go_simp; with_reducible rfl
            rotate_left
            ·simp only [Act.put, sA, sZ, sS, i64_w, i32_w]; rfl
            refine pure_ (i := 8) (N := some 43) (v := ?_) (a' := ?_) #[true, true, true, true, false, false, true, true, true, false, false, false, false, false] rfl rfl (any_of HT_.out (by kernel_rfl)) (fun _ _ _ h => h) (Or.inl ⟨by rfl, ?_⟩) ?_ ?_; rotate_left
            ·intro w'; go_simp; with_reducible rfl
            rotate_left
            ·simp only [Act.put, sA, sZ, sS, i64_w, i32_w]; rfl
            refine pure_ (i := 9) (N := some 44) (v := ?_) (a' := ?_) #[true, true, true, true, false, false, true, true, true, true, false, false, false, false] rfl rfl (any_of HT_.out (by kernel_rfl)) (fun _ _ _ h => h) (Or.inl ⟨by rfl, ?_⟩) ?_ ?_; rotate_left
            ·intro w'; go_simp; with_reducible rfl
            rotate_left
            ·simp only [Act.put, sA, sZ, sS, i64_w, i32_w]; rfl
            refine take_ (i := 4) (N := some 39) (v := ?_) (a' := ?_) #[true, true, true, true, true, false, true, true, true, true, false, false, false, false] rfl rfl (take_ofW HT_.out HW_.out (by kernel_rfl)) (fun _ _ _ h => h) (Or.inl ⟨by rfl, ?_⟩) hHeld ?_ ?_; rotate_left
            ·rintro w' ⟨s0, s1⟩; go_simp; with_reducible rfl
            rotate_left
            ·simp only [Act.put, sA, sZ, sS, i64_w, i32_w]; rfl
            refine take_ (i := 10) (N := some 45) (v := ?_) (a' := ?_) #[true, true, true, true, true, false, true, true, true, true, true, false, false, false] rfl rfl (take_ofW HT_.out HW_.out (by kernel_rfl)) (fun _ _ _ h => h) (Or.inl ⟨by rfl, ?_⟩) hHeld ?_ ?_; rotate_left
            ·rintro w' ⟨s0, s1⟩; go_simp; with_reducible rfl
            rotate_left
            ·simp only [Act.put, sA, sZ, sS, i64_w, i32_w]; rfl
            refine one_ (i := 5) (N := some 40) #[true, true, true, true, true, true, true, true, true, true, true, false, false, false] rfl rfl (one_of HT_.out (by kernel_rfl)) (by decide) (fun K hK => ?_); refine goes_ Try.func18 (by kernel_rfl) rfl #[.slice A0 l0.length c0, .int .i32 (rd t317 x9_1)] (by rfl) rfl rfl mT ?_; with_reducible refine (arboristref03_Has.calls kj11 _ _ l0 (rd t317 x9_1) true _ ?side1 ?side2 A19.out).mono ?_
            (case side1 => exact Kd.C_t ((Kd.V_reads' HO_0.out).2.2)); (case side2 => exact (Kd.V_reads' HO_0.out).2.1); rintro e w56 ⟨rfl, hb⟩; have HS0_ := (hb.cell (World.block_lt_of_cell? _ _ (hHeld.1))).trans (hHeld.1); have HS1_ := (hb.cell (World.block_lt_of_cell? _ _ (hHeld.2))).trans (hHeld.2); refine ⟨_, rfl, ?_⟩; have n0_ := aM (Kd.V_below (Kd.V_t HO_0.out) hb); have n1_ := aM (Kd.V_below (Kd.V_t HO_1.out) hb); have n2_ := aM (Kd.R_below (Kd.R_t HO_7.out) hb); have n3_ := aM (Kd.R_below (Kd.R_t HO_8.out) hb); have n4_ := aM (below_step (hB_t HB.out) hb); clear HO_0; clear HO_1; clear HO_7; clear HO_8; clear HB; have HO_0 := n0_; have HO_1 := n1_; have HO_7 := n2_; have HO_8 := n3_; have HB := n4_; clear n0_ n1_ n2_ n3_ n4_; (try clear hb); (try clear hb2); (try clear hk); (try clear hi); refine hK.out _ _ ⟨HS0_, HS1_⟩ (fun hHeld => ?_); clear hK K; refine norm_ (a' := ?_) ?_ ?_; rotate_left
            ·show Act.put _ (some 40) _ = _
             simp only [Act.put, sA, sZ, sS, i64_w, i32_w]; rfl
            refine one_ (i := 11) (N := some 46) #[true, true, true, true, true, true, true, true, true, true, true, true, false, false] rfl rfl (one_of HT_.out (by kernel_rfl)) (by decide) (fun K hK => ?_); refine goes_ Try.func18 (by kernel_rfl) rfl #[.slice A1 l1.length c1, .int .i32 (rd t317 x9_1)] (by rfl) rfl rfl mT ?_; with_reducible refine (arboristref03_Has.calls kj11 _ _ l1 (rd t317 x9_1) true _ ?side1 ?side2 A20.out).mono ?_
            (case side1 => exact Kd.C_t ((Kd.V_reads' HO_1.out).2.2)); (case side2 => exact (Kd.V_reads' HO_1.out).2.1); rintro e w57 ⟨rfl, hb⟩; have HS0_ := (hb.cell (World.block_lt_of_cell? _ _ (hHeld.1))).trans (hHeld.1); have HS1_ := (hb.cell (World.block_lt_of_cell? _ _ (hHeld.2))).trans (hHeld.2); refine ⟨_, rfl, ?_⟩; have n0_ := aM (Kd.V_below (Kd.V_t HO_0.out) hb); have n1_ := aM (Kd.V_below (Kd.V_t HO_1.out) hb); have n2_ := aM (Kd.R_below (Kd.R_t HO_7.out) hb); have n3_ := aM (Kd.R_below (Kd.R_t HO_8.out) hb); have n4_ := aM (below_step (hB_t HB.out) hb); clear HO_0; clear HO_1; clear HO_7; clear HO_8; clear HB; have HO_0 := n0_; have HO_1 := n1_; have HO_7 := n2_; have HO_8 := n3_; have HB := n4_; clear n0_ n1_ n2_ n3_ n4_; (try clear hb); (try clear hb2); (try clear hk); (try clear hi); refine hK.out _ _ ⟨HS0_, HS1_⟩ (fun hHeld => ?_); clear hK K; refine norm_ (a' := ?_) ?_ ?_; rotate_left
            ·show Act.put _ (some 46) _ = _
             simp only [Act.put, sA, sZ, sS, i64_w, i32_w]; rfl
            refine pure_ (i := 12) (N := some 11) (v := ?_) (a' := ?_) #[true, true, true, true, true, true, true, true, true, true, true, true, true, false] rfl rfl (any_of HT_.out (by kernel_rfl)) (fun _ _ _ h => h) (Or.inl ⟨by rfl, ?_⟩) ?_ ?_; rotate_left
            ·intro w'; go_simp; with_reducible rfl
            rotate_left
            ·simp only [Act.put, sA, sZ, sS, i64_w, i32_w]; rfl
            refine pure_ (i := 13) (N := some 12) (v := ?_) (a' := ?_) #[true, true, true, true, true, true, true, true, true, true, true, true, true, true] rfl rfl (any_of HT_.out (by kernel_rfl)) (fun _ _ _ h => h) (Or.inl ⟨by rfl, ?_⟩) ?_ ?_; rotate_left
            ·intro w'; go_simp; with_reducible rfl
            rotate_left
            ·simp only [Act.put, sA, sZ, sS, i64_w, i32_w]; rfl
            refine done_ (done_of HT_.out (by kernel_rfl)) ?_; have p336 : 0 ≤ (x9_1 : Int) := dT; have q336 : x9_1 < (t317.length : Int) := dT; obtain ⟨ad336, e336, hx336_0⟩ := Kd.at_int (Kd.R_reads' HO_7.out).2.2 x9_1 p336 q336; obtain rfl : ad324 = ad336 := (by injection e336); replace p336 := eq_true p336; replace q336 := eq_true q336; obtain ⟨Ao58, co58, eo58⟩ := Kd.R_slice HO_8.out; subst eo58; try go_wp2_with (first | ((with_reducible refine gate_callee (f := 47) rfl ?_); refine goesL_ (some 82) rfl rfl Try.func47 (by kernel_rfl) rfl #[.slice Ao58 x8_1.length co58, .int .i32 (rd t317 x9_1), .int .i32 x10_11] rfl mT ?_; (with_reducible refine (arboristref03_join.calls (fun k_ => some k_ = (.slice Ao58 x8_1.length co58 : Value).ownBlock) (.slice Ao58 x8_1.length co58) x8_1 (rd t317 x9_1) x10_11 t337 w _ ?side1 ?side2 A54.out).mono ?_); (case side1 => repeat (first | (with_reducible first | exact HB.out | apply below_alloc | apply pw_below_drewN | apply below_drew1) | exact HB.out)); (case side2 => exact Kd.R_tight rfl HO_8.out); rintro e w59 ⟨v338, rfl, ho0, hb, hkp⟩; refine ⟨_, rfl, ?_⟩; have n0_ := aM (Kd.V_mono (ok' := fun k_ => ((P0_ k_ ∨ P1_ k_) ∨ w.heap.size ≤ k_) ∧ some k_ ≠ (.slice (some ad324) t317.length co13 : Value).ownBlock ∧ some k_ ≠ (v338 : Value).ownBlock) (Kd.V_keptB (HO_0.out) hkp (fun k_ hk_ hs_ => (hk_.2.2) hs_)) (fun k_ hk_ => ⟨hk_.1.1, hk_.1.2.1, fun e_ => Or.elim (ho0.1 k_ e_.symm) (fun hs_ => hk_.2.1 hs_) (fun hn_ => Nat.not_le.2 hk_.2.2 hn_)⟩)); have n1_ := aM (Kd.V_mono (ok' := fun k_ => ((P0_ k_ ∨ P1_ k_) ∨ w.heap.size ≤ k_) ∧ some k_ ≠ (.slice (some ad324) t317.length co13 : Value).ownBlock ∧ some k_ ≠ (v338 : Value).ownBlock) (Kd.V_keptB (HO_1.out) hkp (fun k_ hk_ hs_ => (hk_.2.2) hs_)) (fun k_ hk_ => ⟨hk_.1.1, hk_.1.2.1, fun e_ => Or.elim (ho0.1 k_ e_.symm) (fun hs_ => hk_.2.1 hs_) (fun hn_ => Nat.not_le.2 hk_.2.2 hn_)⟩)); have n2_ := aM (Kd.R_mono (ok' := fun k_ => (w.heap.size ≤ k_)) (Kd.R_keptB ((Kd.R_apart' HO_7.out (Kd.R_typed HO_8.out) (by decide))) hkp (fun k_ hk_ hs_ => (hk_.2) hs_)) (fun k_ hk_ => hk_.1.1)); have n3_ := aM (Kd.R_mono (ok' := fun k_ => (w.heap.size ≤ k_)) ho0 (fun k_ hk_ => Or.elim hk_ (fun hs_ => (HO_8.out.1 k_ (hs_).symm)) (fun hn_ => (Nat.le_trans (below_size (hB_t HB.out)) hn_)))); have n4_ := aM (hb); clear HO_0; clear HO_1; clear HO_7; clear HB; clear HO_8; have HO_0 := n0_; have HO_1 := n1_; have HO_7 := n2_; have HO339 := n3_; have HB := n4_; clear n0_ n1_ n2_ n3_ n4_; (try clear hb); (try clear hkp); (try clear ho0)))
            go_roundg kj11
            case measure => have := HK1.out; have := HJ11.out; omega
            case rel => exact ⟨(t337), (wrap64 (x9_1 + 1)), rT, H', ⟨by have := HK1.out; have := HJ11.out; omega⟩, ⟨Kd.V_t HO_0.out⟩, ⟨Kd.V_t HO_1.out⟩, ⟨Kd.R_t HO_7.out⟩, ⟨Kd.R_t HO339.out⟩, ⟨hB_t HB.out⟩⟩
           ·replace c53 := Bool.eq_false_iff.mpr c53; subst c53; have H1 : (if a2 = 3 then ((arboristref03_join.f x8_1 (rd t317 x9_1) x10_11).bind fun t341 => (arboristref03_both.l0 kj11 l0 l1 a2 t317 t341 (wrap64 (x9_1 + 1)))) else (arboristref03_both.l0 kj11 l0 l1 a2 t317 x8_1 (wrap64 (x9_1 + 1)))) = some r := by rw [if_neg (show ¬ (false = true) by decide)] at H; exact H
            clear H; have H := H1; clear H1
            by_cases c60 : a2 = 3
            ·rw [if_pos c60] at H; have c60b0 : (a2 == 3) = true := beq_iff_eq.mpr c60; have c60b1 : (a2 != 3) = false := bne_eq_false_iff_eq.mpr c60; clear c60; replace H := Option.bind_eq_some_iff.mp H; obtain ⟨t341, A610, H⟩ := H; replace H : (arboristref03_both.l0 kj11 l0 l1 a2 t317 t341 (wrap64 (x9_1 + 1))) = some r := H; have A61 := aM A610; clear A610; have H' := aM H; clear H; try go_wp2
             have n0_ := aM (Kd.V_drew HO_0.out); have n1_ := aM (Kd.V_drew HO_1.out); have n2_ := aM (Kd.R_drew HO_7.out); have n3_ := aM (Kd.R_drew HO_8.out); have n4_ := aM (below_drew1 HB.out); clear HO_0; clear HO_1; clear HO_7; clear HO_8; clear HB; have HO_0 := n0_; have HO_1 := n1_; have HO_7 := n2_; have HO_8 := n3_; have HB := n4_; clear n0_ n1_ n2_ n3_ n4_; have p324 : 0 ≤ (x9_1 : Int) := dT; have q324 : x9_1 < (t317.length : Int) := dT; obtain ⟨ad324, e324, hx324_0⟩ := Kd.at_int (Kd.R_reads' HO_7.out).2.2 x9_1 p324 q324; cases e324
             replace p324 := eq_true p324; replace q324 := eq_true q324; have p326 : 0 ≤ (x9_1 : Int) := dT; have q326 : x9_1 < (t317.length : Int) := dT; obtain ⟨ad326, e326, hx326_0⟩ := Kd.at_int (Kd.R_reads' HO_7.out).2.2 x9_1 p326 q326; obtain rfl : ad324 = ad326 := (by injection e326); replace p326 := eq_true p326; replace q326 := eq_true q326; refine start_ (n := 14) (S := fun w' => w'.cell? (ad324.add (x9_1).toNat) = some (.int .i32 (rd t317 x9_1)) ∧ w'.cell? (ad324.add (x9_1).toNat) = some (.int .i32 (rd t317 x9_1))) (ds := []) #[false, false, false, false, false, false, false, false, false, false, false, false, false, false] (by kernel_rfl) rfl rfl ⟨hx324_0, hx326_0⟩ (fun hHeld => ?_); refine with_tabW arboristref03_both.tab9 arboristref03_both.bits9 (fun HT_ HW_ => ?_); generalize wc.drew = w62 at HO_0 HO_1 HO_7 HO_8 HB hx324_0 hx326_0 hHeld ⊢; refine pure_ (i := 0) (N := some 35) (v := ?_) (a' := ?_) #[true, false, false, false, false, false, false, false, false, false, false, false, false, false] rfl rfl (any_of HT_.out (by kernel_rfl)) (fun _ _ _ h => h) (Or.inl ⟨by rfl, ?_⟩) ?_ ?_; rotate_left
             ·intro w'; go_simp; with_reducible rfl
             rotate_left
             ·simp only [Act.put, sA, sZ, sS, i64_w, i32_w]; rfl
             refine pure_ (i := 1) (N := some 36) (v := ?_) (a' := ?_) #[true, true, false, false, false, false, false, false, false, false, false, false, false, false] rfl rfl (any_of HT_.out (by kernel_rfl)) (fun _ _ _ h => h) (Or.inl ⟨by rfl, ?_⟩) ?_ ?_; rotate_left
             ·intro w'; go_simp; with_reducible rfl
             rotate_left
             ·simp only [Act.put, sA, sZ, sS, i64_w, i32_w]; rfl
             refine pure_ (i := 2) (N := some 37) (v := ?_) (a' := ?_) #[true, true, true, false, false, false, false, false, false, false, false, false, false, false] rfl rfl (any_of HT_.out (by kernel_rfl)) (fun _ _ _ h => h) (Or.inl ⟨by rfl, ?_⟩) ?_ ?_; rotate_left
             ·intro w'; go_simp; with_reducible rfl
             rotate_left
             ·simp only [Act.put, sA, sZ, sS, i64_w, i32_w]; rfl
             refine pure_ (i := 3) (N := some 38) (v := ?_) (a' := ?_) #[true, true, true, true, false, false, false, false, false, false, false, false, false, false] rfl rfl (any_of HT_.out (by kernel_rfl)) (fun _ _ _ h => h) (Or.inl ⟨by rfl, ?_⟩) ?_ ?_; rotate_left
             ·intro w'; go_simp; with_reducible rfl
             rotate_left
             ·simp only [Act.put, sA, sZ, sS, i64_w, i32_w]; rfl
             refine pure_ (i := 6) (N := some 41) (v := ?_) (a' := ?_) #[true, true, true, true, false, false, true, false, false, false, false, false, false, false] rfl rfl (any_of HT_.out (by kernel_rfl)) (fun _ _ _ h => h) (Or.inl ⟨by rfl, ?_⟩) ?_ ?_; rotate_left
             ·intro w'; go_simp; with_reducible rfl
             rotate_left
             ·simp only [Act.put, sA, sZ, sS, i64_w, i32_w]; rfl
             refine pure_ (i := 7) (N := some 42) (v := ?_) (a' := ?_) #[true, true, true, true, false, false, true, true, false, false, false, false, false, false] rfl rfl (any_of HT_.out (by kernel_rfl)) (fun _ _ _ h => h) (Or.inl ⟨by rfl, ?_⟩) ?_ ?_; rotate_left
             ·intro w'; go_simp; with_reducible rfl
             rotate_left
             ·simp only [Act.put, sA, sZ, sS, i64_w, i32_w]; rfl
             refine pure_ (i := 8) (N := some 43) (v := ?_) (a' := ?_) #[true, true, true, true, false, false, true, true, true, false, false, false, false, false] rfl rfl (any_of HT_.out (by kernel_rfl)) (fun _ _ _ h => h) (Or.inl ⟨by rfl, ?_⟩) ?_ ?_; rotate_left
             ·intro w'; go_simp; with_reducible rfl
             rotate_left
             ·simp only [Act.put, sA, sZ, sS, i64_w, i32_w]; rfl
             refine pure_ (i := 9) (N := some 44) (v := ?_) (a' := ?_) #[true, true, true, true, false, false, true, true, true, true, false, false, false, false] rfl rfl (any_of HT_.out (by kernel_rfl)) (fun _ _ _ h => h) (Or.inl ⟨by rfl, ?_⟩) ?_ ?_; rotate_left
             ·intro w'; go_simp; with_reducible rfl
             rotate_left
             ·simp only [Act.put, sA, sZ, sS, i64_w, i32_w]; rfl
             refine take_ (i := 4) (N := some 39) (v := ?_) (a' := ?_) #[true, true, true, true, true, false, true, true, true, true, false, false, false, false] rfl rfl (take_ofW HT_.out HW_.out (by kernel_rfl)) (fun _ _ _ h => h) (Or.inl ⟨by rfl, ?_⟩) hHeld ?_ ?_; rotate_left
             ·rintro w' ⟨s0, s1⟩; go_simp; with_reducible rfl
             rotate_left
             ·simp only [Act.put, sA, sZ, sS, i64_w, i32_w]; rfl
             refine take_ (i := 10) (N := some 45) (v := ?_) (a' := ?_) #[true, true, true, true, true, false, true, true, true, true, true, false, false, false] rfl rfl (take_ofW HT_.out HW_.out (by kernel_rfl)) (fun _ _ _ h => h) (Or.inl ⟨by rfl, ?_⟩) hHeld ?_ ?_; rotate_left
             ·rintro w' ⟨s0, s1⟩; go_simp; with_reducible rfl
             rotate_left
             ·simp only [Act.put, sA, sZ, sS, i64_w, i32_w]; rfl
             refine one_ (i := 5) (N := some 40) #[true, true, true, true, true, true, true, true, true, true, true, false, false, false] rfl rfl (one_of HT_.out (by kernel_rfl)) (by decide) (fun K hK => ?_); refine goes_ Try.func18 (by kernel_rfl) rfl #[.slice A0 l0.length c0, .int .i32 (rd t317 x9_1)] (by rfl) rfl rfl mT ?_; with_reducible refine (arboristref03_Has.calls kj11 _ _ l0 (rd t317 x9_1) true _ ?side1 ?side2 A19.out).mono ?_
             (case side1 => exact Kd.C_t ((Kd.V_reads' HO_0.out).2.2)); (case side2 => exact (Kd.V_reads' HO_0.out).2.1); rintro e w63 ⟨rfl, hb⟩; have HS0_ := (hb.cell (World.block_lt_of_cell? _ _ (hHeld.1))).trans (hHeld.1); have HS1_ := (hb.cell (World.block_lt_of_cell? _ _ (hHeld.2))).trans (hHeld.2); refine ⟨_, rfl, ?_⟩; have n0_ := aM (Kd.V_below (Kd.V_t HO_0.out) hb); have n1_ := aM (Kd.V_below (Kd.V_t HO_1.out) hb); have n2_ := aM (Kd.R_below (Kd.R_t HO_7.out) hb); have n3_ := aM (Kd.R_below (Kd.R_t HO_8.out) hb); have n4_ := aM (below_step (hB_t HB.out) hb); clear HO_0; clear HO_1; clear HO_7; clear HO_8; clear HB; have HO_0 := n0_; have HO_1 := n1_; have HO_7 := n2_; have HO_8 := n3_; have HB := n4_; clear n0_ n1_ n2_ n3_ n4_; (try clear hb); (try clear hb2); (try clear hk); (try clear hi); refine hK.out _ _ ⟨HS0_, HS1_⟩ (fun hHeld => ?_); clear hK K; refine norm_ (a' := ?_) ?_ ?_; rotate_left
             ·show Act.put _ (some 40) _ = _
              simp only [Act.put, sA, sZ, sS, i64_w, i32_w]; rfl
             refine one_ (i := 11) (N := some 46) #[true, true, true, true, true, true, true, true, true, true, true, true, false, false] rfl rfl (one_of HT_.out (by kernel_rfl)) (by decide) (fun K hK => ?_); refine goes_ Try.func18 (by kernel_rfl) rfl #[.slice A1 l1.length c1, .int .i32 (rd t317 x9_1)] (by rfl) rfl rfl mT ?_; with_reducible refine (arboristref03_Has.calls kj11 _ _ l1 (rd t317 x9_1) false _ ?side1 ?side2 A20.out).mono ?_
             (case side1 => exact Kd.C_t ((Kd.V_reads' HO_1.out).2.2)); (case side2 => exact (Kd.V_reads' HO_1.out).2.1); rintro e w64 ⟨rfl, hb⟩; have HS0_ := (hb.cell (World.block_lt_of_cell? _ _ (hHeld.1))).trans (hHeld.1); have HS1_ := (hb.cell (World.block_lt_of_cell? _ _ (hHeld.2))).trans (hHeld.2); refine ⟨_, rfl, ?_⟩; have n0_ := aM (Kd.V_below (Kd.V_t HO_0.out) hb); have n1_ := aM (Kd.V_below (Kd.V_t HO_1.out) hb); have n2_ := aM (Kd.R_below (Kd.R_t HO_7.out) hb); have n3_ := aM (Kd.R_below (Kd.R_t HO_8.out) hb); have n4_ := aM (below_step (hB_t HB.out) hb); clear HO_0; clear HO_1; clear HO_7; clear HO_8; clear HB; have HO_0 := n0_; have HO_1 := n1_; have HO_7 := n2_; have HO_8 := n3_; have HB := n4_; clear n0_ n1_ n2_ n3_ n4_; (try clear hb); (try clear hb2); (try clear hk); (try clear hi); refine hK.out _ _ ⟨HS0_, HS1_⟩ (fun hHeld => ?_); clear hK K; refine norm_ (a' := ?_) ?_ ?_; rotate_left
             ·show Act.put _ (some 46) _ = _
              simp only [Act.put, sA, sZ, sS, i64_w, i32_w]; rfl
             refine pure_ (i := 12) (N := some 11) (v := ?_) (a' := ?_) #[true, true, true, true, true, true, true, true, true, true, true, true, true, false] rfl rfl (any_of HT_.out (by kernel_rfl)) (fun _ _ _ h => h) (Or.inl ⟨by rfl, ?_⟩) ?_ ?_; rotate_left
             ·intro w'; go_simp; with_reducible rfl
             rotate_left
             ·simp only [Act.put, sA, sZ, sS, i64_w, i32_w]; rfl
             refine pure_ (i := 13) (N := some 12) (v := ?_) (a' := ?_) #[true, true, true, true, true, true, true, true, true, true, true, true, true, true] rfl rfl (any_of HT_.out (by kernel_rfl)) (fun _ _ _ h => h) (Or.inl ⟨by rfl, ?_⟩) ?_ ?_; rotate_left
             ·intro w'; go_simp; with_reducible rfl
             rotate_left
             ·simp only [Act.put, sA, sZ, sS, i64_w, i32_w]; rfl
             refine done_ (done_of HT_.out (by kernel_rfl)) ?_; have p340 : 0 ≤ (x9_1 : Int) := dT; have q340 : x9_1 < (t317.length : Int) := dT; obtain ⟨ad340, e340, hx340_0⟩ := Kd.at_int (Kd.R_reads' HO_7.out).2.2 x9_1 p340 q340; obtain rfl : ad324 = ad340 := (by injection e340); replace p340 := eq_true p340; replace q340 := eq_true q340; obtain ⟨Ao65, co65, eo65⟩ := Kd.R_slice HO_8.out; subst eo65; try go_wp2_with (first | ((with_reducible refine gate_callee (f := 47) rfl ?_); refine goesL_ (some 82) rfl rfl Try.func47 (by kernel_rfl) rfl #[.slice Ao65 x8_1.length co65, .int .i32 (rd t317 x9_1), .int .i32 x10_11] rfl mT ?_; (with_reducible refine (arboristref03_join.calls (fun k_ => some k_ = (.slice Ao65 x8_1.length co65 : Value).ownBlock) (.slice Ao65 x8_1.length co65) x8_1 (rd t317 x9_1) x10_11 t341 w _ ?side1 ?side2 A61.out).mono ?_); (case side1 => repeat (first | (with_reducible first | exact HB.out | apply below_alloc | apply pw_below_drewN | apply below_drew1) | exact HB.out)); (case side2 => exact Kd.R_tight rfl HO_8.out); rintro e w66 ⟨v342, rfl, ho0, hb, hkp⟩; refine ⟨_, rfl, ?_⟩; have n0_ := aM (Kd.V_mono (ok' := fun k_ => ((P0_ k_ ∨ P1_ k_) ∨ w.heap.size ≤ k_) ∧ some k_ ≠ (.slice (some ad324) t317.length co13 : Value).ownBlock ∧ some k_ ≠ (v342 : Value).ownBlock) (Kd.V_keptB (HO_0.out) hkp (fun k_ hk_ hs_ => (hk_.2.2) hs_)) (fun k_ hk_ => ⟨hk_.1.1, hk_.1.2.1, fun e_ => Or.elim (ho0.1 k_ e_.symm) (fun hs_ => hk_.2.1 hs_) (fun hn_ => Nat.not_le.2 hk_.2.2 hn_)⟩)); have n1_ := aM (Kd.V_mono (ok' := fun k_ => ((P0_ k_ ∨ P1_ k_) ∨ w.heap.size ≤ k_) ∧ some k_ ≠ (.slice (some ad324) t317.length co13 : Value).ownBlock ∧ some k_ ≠ (v342 : Value).ownBlock) (Kd.V_keptB (HO_1.out) hkp (fun k_ hk_ hs_ => (hk_.2.2) hs_)) (fun k_ hk_ => ⟨hk_.1.1, hk_.1.2.1, fun e_ => Or.elim (ho0.1 k_ e_.symm) (fun hs_ => hk_.2.1 hs_) (fun hn_ => Nat.not_le.2 hk_.2.2 hn_)⟩)); have n2_ := aM (Kd.R_mono (ok' := fun k_ => (w.heap.size ≤ k_)) (Kd.R_keptB ((Kd.R_apart' HO_7.out (Kd.R_typed HO_8.out) (by decide))) hkp (fun k_ hk_ hs_ => (hk_.2) hs_)) (fun k_ hk_ => hk_.1.1)); have n3_ := aM (Kd.R_mono (ok' := fun k_ => (w.heap.size ≤ k_)) ho0 (fun k_ hk_ => Or.elim hk_ (fun hs_ => (HO_8.out.1 k_ (hs_).symm)) (fun hn_ => (Nat.le_trans (below_size (hB_t HB.out)) hn_)))); have n4_ := aM (hb); clear HO_0; clear HO_1; clear HO_7; clear HB; clear HO_8; have HO_0 := n0_; have HO_1 := n1_; have HO_7 := n2_; have HO343 := n3_; have HB := n4_; clear n0_ n1_ n2_ n3_ n4_; (try clear hb); (try clear hkp); (try clear ho0)))
             go_roundg kj11
             case measure => have := HK1.out; have := HJ11.out; omega
             case rel => exact ⟨(t341), (wrap64 (x9_1 + 1)), rT, H', ⟨by have := HK1.out; have := HJ11.out; omega⟩, ⟨Kd.V_t HO_0.out⟩, ⟨Kd.V_t HO_1.out⟩, ⟨Kd.R_t HO_7.out⟩, ⟨Kd.R_t HO343.out⟩, ⟨hB_t HB.out⟩⟩
            ·rw [if_neg c60] at H; have c60b0 : (a2 == 3) = false := beq_eq_false_iff_ne.mpr c60; have c60b1 : (a2 != 3) = true := bne_iff_ne.mpr c60; have H' := aM H; clear H; try go_wp2
             have n0_ := aM (Kd.V_drew HO_0.out); have n1_ := aM (Kd.V_drew HO_1.out); have n2_ := aM (Kd.R_drew HO_7.out); have n3_ := aM (Kd.R_drew HO_8.out); have n4_ := aM (below_drew1 HB.out); clear HO_0; clear HO_1; clear HO_7; clear HO_8; clear HB; have HO_0 := n0_; have HO_1 := n1_; have HO_7 := n2_; have HO_8 := n3_; have HB := n4_; clear n0_ n1_ n2_ n3_ n4_; have p324 : 0 ≤ (x9_1 : Int) := dT; have q324 : x9_1 < (t317.length : Int) := dT; obtain ⟨ad324, e324, hx324_0⟩ := Kd.at_int (Kd.R_reads' HO_7.out).2.2 x9_1 p324 q324; cases e324
             replace p324 := eq_true p324; replace q324 := eq_true q324; have p326 : 0 ≤ (x9_1 : Int) := dT; have q326 : x9_1 < (t317.length : Int) := dT; obtain ⟨ad326, e326, hx326_0⟩ := Kd.at_int (Kd.R_reads' HO_7.out).2.2 x9_1 p326 q326; obtain rfl : ad324 = ad326 := (by injection e326); replace p326 := eq_true p326; replace q326 := eq_true q326; refine start_ (n := 14) (S := fun w' => w'.cell? (ad324.add (x9_1).toNat) = some (.int .i32 (rd t317 x9_1)) ∧ w'.cell? (ad324.add (x9_1).toNat) = some (.int .i32 (rd t317 x9_1))) (ds := []) #[false, false, false, false, false, false, false, false, false, false, false, false, false, false] (by kernel_rfl) rfl rfl ⟨hx324_0, hx326_0⟩ (fun hHeld => ?_); refine with_tabW arboristref03_both.tab9 arboristref03_both.bits9 (fun HT_ HW_ => ?_); generalize wc.drew = w67 at HO_0 HO_1 HO_7 HO_8 HB hx324_0 hx326_0 hHeld ⊢; refine pure_ (i := 0) (N := some 35) (v := ?_) (a' := ?_) #[true, false, false, false, false, false, false, false, false, false, false, false, false, false] rfl rfl (any_of HT_.out (by kernel_rfl)) (fun _ _ _ h => h) (Or.inl ⟨by rfl, ?_⟩) ?_ ?_; rotate_left
             ·intro w'; go_simp; with_reducible rfl
             rotate_left
             ·simp only [Act.put, sA, sZ, sS, i64_w, i32_w]; rfl
             refine pure_ (i := 1) (N := some 36) (v := ?_) (a' := ?_) #[true, true, false, false, false, false, false, false, false, false, false, false, false, false] rfl rfl (any_of HT_.out (by kernel_rfl)) (fun _ _ _ h => h) (Or.inl ⟨by rfl, ?_⟩) ?_ ?_; rotate_left
             ·intro w'; go_simp; with_reducible rfl
             rotate_left
             ·simp only [Act.put, sA, sZ, sS, i64_w, i32_w]; rfl
             refine pure_ (i := 2) (N := some 37) (v := ?_) (a' := ?_) #[true, true, true, false, false, false, false, false, false, false, false, false, false, false] rfl rfl (any_of HT_.out (by kernel_rfl)) (fun _ _ _ h => h) (Or.inl ⟨by rfl, ?_⟩) ?_ ?_; rotate_left
             ·intro w'; go_simp; with_reducible rfl
             rotate_left
             ·simp only [Act.put, sA, sZ, sS, i64_w, i32_w]; rfl
             refine pure_ (i := 3) (N := some 38) (v := ?_) (a' := ?_) #[true, true, true, true, false, false, false, false, false, false, false, false, false, false] rfl rfl (any_of HT_.out (by kernel_rfl)) (fun _ _ _ h => h) (Or.inl ⟨by rfl, ?_⟩) ?_ ?_; rotate_left
             ·intro w'; go_simp; with_reducible rfl
             rotate_left
             ·simp only [Act.put, sA, sZ, sS, i64_w, i32_w]; rfl
             refine pure_ (i := 6) (N := some 41) (v := ?_) (a' := ?_) #[true, true, true, true, false, false, true, false, false, false, false, false, false, false] rfl rfl (any_of HT_.out (by kernel_rfl)) (fun _ _ _ h => h) (Or.inl ⟨by rfl, ?_⟩) ?_ ?_; rotate_left
             ·intro w'; go_simp; with_reducible rfl
             rotate_left
             ·simp only [Act.put, sA, sZ, sS, i64_w, i32_w]; rfl
             refine pure_ (i := 7) (N := some 42) (v := ?_) (a' := ?_) #[true, true, true, true, false, false, true, true, false, false, false, false, false, false] rfl rfl (any_of HT_.out (by kernel_rfl)) (fun _ _ _ h => h) (Or.inl ⟨by rfl, ?_⟩) ?_ ?_; rotate_left
             ·intro w'; go_simp; with_reducible rfl
             rotate_left
             ·simp only [Act.put, sA, sZ, sS, i64_w, i32_w]; rfl
             refine pure_ (i := 8) (N := some 43) (v := ?_) (a' := ?_) #[true, true, true, true, false, false, true, true, true, false, false, false, false, false] rfl rfl (any_of HT_.out (by kernel_rfl)) (fun _ _ _ h => h) (Or.inl ⟨by rfl, ?_⟩) ?_ ?_; rotate_left
             ·intro w'; go_simp; with_reducible rfl
             rotate_left
             ·simp only [Act.put, sA, sZ, sS, i64_w, i32_w]; rfl
             refine pure_ (i := 9) (N := some 44) (v := ?_) (a' := ?_) #[true, true, true, true, false, false, true, true, true, true, false, false, false, false] rfl rfl (any_of HT_.out (by kernel_rfl)) (fun _ _ _ h => h) (Or.inl ⟨by rfl, ?_⟩) ?_ ?_; rotate_left
             ·intro w'; go_simp; with_reducible rfl
             rotate_left
             ·simp only [Act.put, sA, sZ, sS, i64_w, i32_w]; rfl
             refine take_ (i := 4) (N := some 39) (v := ?_) (a' := ?_) #[true, true, true, true, true, false, true, true, true, true, false, false, false, false] rfl rfl (take_ofW HT_.out HW_.out (by kernel_rfl)) (fun _ _ _ h => h) (Or.inl ⟨by rfl, ?_⟩) hHeld ?_ ?_; rotate_left
             ·rintro w' ⟨s0, s1⟩; go_simp; with_reducible rfl
             rotate_left
             ·simp only [Act.put, sA, sZ, sS, i64_w, i32_w]; rfl
             refine take_ (i := 10) (N := some 45) (v := ?_) (a' := ?_) #[true, true, true, true, true, false, true, true, true, true, true, false, false, false] rfl rfl (take_ofW HT_.out HW_.out (by kernel_rfl)) (fun _ _ _ h => h) (Or.inl ⟨by rfl, ?_⟩) hHeld ?_ ?_; rotate_left
             ·rintro w' ⟨s0, s1⟩; go_simp; with_reducible rfl
             rotate_left
             ·simp only [Act.put, sA, sZ, sS, i64_w, i32_w]; rfl
             refine one_ (i := 5) (N := some 40) #[true, true, true, true, true, true, true, true, true, true, true, false, false, false] rfl rfl (one_of HT_.out (by kernel_rfl)) (by decide) (fun K hK => ?_); refine goes_ Try.func18 (by kernel_rfl) rfl #[.slice A0 l0.length c0, .int .i32 (rd t317 x9_1)] (by rfl) rfl rfl mT ?_; with_reducible refine (arboristref03_Has.calls kj11 _ _ l0 (rd t317 x9_1) true _ ?side1 ?side2 A19.out).mono ?_
             (case side1 => exact Kd.C_t ((Kd.V_reads' HO_0.out).2.2)); (case side2 => exact (Kd.V_reads' HO_0.out).2.1); rintro e w68 ⟨rfl, hb⟩; have HS0_ := (hb.cell (World.block_lt_of_cell? _ _ (hHeld.1))).trans (hHeld.1); have HS1_ := (hb.cell (World.block_lt_of_cell? _ _ (hHeld.2))).trans (hHeld.2); refine ⟨_, rfl, ?_⟩; have n0_ := aM (Kd.V_below (Kd.V_t HO_0.out) hb); have n1_ := aM (Kd.V_below (Kd.V_t HO_1.out) hb); have n2_ := aM (Kd.R_below (Kd.R_t HO_7.out) hb); have n3_ := aM (Kd.R_below (Kd.R_t HO_8.out) hb); have n4_ := aM (below_step (hB_t HB.out) hb); clear HO_0; clear HO_1; clear HO_7; clear HO_8; clear HB; have HO_0 := n0_; have HO_1 := n1_; have HO_7 := n2_; have HO_8 := n3_; have HB := n4_; clear n0_ n1_ n2_ n3_ n4_; (try clear hb); (try clear hb2); (try clear hk); (try clear hi); refine hK.out _ _ ⟨HS0_, HS1_⟩ (fun hHeld => ?_); clear hK K; refine norm_ (a' := ?_) ?_ ?_; rotate_left
             ·show Act.put _ (some 40) _ = _
              simp only [Act.put, sA, sZ, sS, i64_w, i32_w]; rfl
             refine one_ (i := 11) (N := some 46) #[true, true, true, true, true, true, true, true, true, true, true, true, false, false] rfl rfl (one_of HT_.out (by kernel_rfl)) (by decide) (fun K hK => ?_); refine goes_ Try.func18 (by kernel_rfl) rfl #[.slice A1 l1.length c1, .int .i32 (rd t317 x9_1)] (by rfl) rfl rfl mT ?_; with_reducible refine (arboristref03_Has.calls kj11 _ _ l1 (rd t317 x9_1) false _ ?side1 ?side2 A20.out).mono ?_
             (case side1 => exact Kd.C_t ((Kd.V_reads' HO_1.out).2.2)); (case side2 => exact (Kd.V_reads' HO_1.out).2.1); rintro e w69 ⟨rfl, hb⟩; have HS0_ := (hb.cell (World.block_lt_of_cell? _ _ (hHeld.1))).trans (hHeld.1); have HS1_ := (hb.cell (World.block_lt_of_cell? _ _ (hHeld.2))).trans (hHeld.2); refine ⟨_, rfl, ?_⟩; have n0_ := aM (Kd.V_below (Kd.V_t HO_0.out) hb); have n1_ := aM (Kd.V_below (Kd.V_t HO_1.out) hb); have n2_ := aM (Kd.R_below (Kd.R_t HO_7.out) hb); have n3_ := aM (Kd.R_below (Kd.R_t HO_8.out) hb); have n4_ := aM (below_step (hB_t HB.out) hb); clear HO_0; clear HO_1; clear HO_7; clear HO_8; clear HB; have HO_0 := n0_; have HO_1 := n1_; have HO_7 := n2_; have HO_8 := n3_; have HB := n4_; clear n0_ n1_ n2_ n3_ n4_; (try clear hb); (try clear hb2); (try clear hk); (try clear hi); refine hK.out _ _ ⟨HS0_, HS1_⟩ (fun hHeld => ?_); clear hK K; refine norm_ (a' := ?_) ?_ ?_; rotate_left
             ·show Act.put _ (some 46) _ = _
              simp only [Act.put, sA, sZ, sS, i64_w, i32_w]; rfl
             refine pure_ (i := 12) (N := some 11) (v := ?_) (a' := ?_) #[true, true, true, true, true, true, true, true, true, true, true, true, true, false] rfl rfl (any_of HT_.out (by kernel_rfl)) (fun _ _ _ h => h) (Or.inl ⟨by rfl, ?_⟩) ?_ ?_; rotate_left
             ·intro w'; go_simp; with_reducible rfl
             rotate_left
             ·simp only [Act.put, sA, sZ, sS, i64_w, i32_w]; rfl
             refine pure_ (i := 13) (N := some 12) (v := ?_) (a' := ?_) #[true, true, true, true, true, true, true, true, true, true, true, true, true, true] rfl rfl (any_of HT_.out (by kernel_rfl)) (fun _ _ _ h => h) (Or.inl ⟨by rfl, ?_⟩) ?_ ?_; rotate_left
             ·intro w'; go_simp; with_reducible rfl
             rotate_left
             ·simp only [Act.put, sA, sZ, sS, i64_w, i32_w]; rfl
             refine done_ (done_of HT_.out (by kernel_rfl)) ?_; try go_wp2
             go_roundg kj11
             case measure => have := HK1.out; have := HJ11.out; omega
             case rel => exact ⟨(x8_1), (wrap64 (x9_1 + 1)), rT, H', ⟨by have := HK1.out; have := HJ11.out; omega⟩, ⟨Kd.V_t HO_0.out⟩, ⟨Kd.V_t HO_1.out⟩, ⟨Kd.R_t HO_7.out⟩, ⟨Kd.R_t HO_8.out⟩, ⟨hB_t HB.out⟩⟩
          ·replace c52 := Bool.eq_false_iff.mpr c52; subst c52; have H1 : (if a2 = 3 then (arboristref03_both.l0 kj11 l0 l1 a2 t317 x8_1 (wrap64 (x9_1 + 1))) else (arboristref03_both.l0 kj11 l0 l1 a2 t317 x8_1 (wrap64 (x9_1 + 1)))) = some r := by rw [if_neg (show ¬ (false = true) by decide)] at H; exact H
           clear H; have H := H1; clear H1
           by_cases c70 : a2 = 3
           ·rw [if_pos c70] at H; have c70b0 : (a2 == 3) = true := beq_iff_eq.mpr c70; have c70b1 : (a2 != 3) = false := bne_eq_false_iff_eq.mpr c70; clear c70; have H' := aM H; clear H; try go_wp2
            have n0_ := aM (Kd.V_drew HO_0.out); have n1_ := aM (Kd.V_drew HO_1.out); have n2_ := aM (Kd.R_drew HO_7.out); have n3_ := aM (Kd.R_drew HO_8.out); have n4_ := aM (below_drew1 HB.out); clear HO_0; clear HO_1; clear HO_7; clear HO_8; clear HB; have HO_0 := n0_; have HO_1 := n1_; have HO_7 := n2_; have HO_8 := n3_; have HB := n4_; clear n0_ n1_ n2_ n3_ n4_; have p324 : 0 ≤ (x9_1 : Int) := dT; have q324 : x9_1 < (t317.length : Int) := dT; obtain ⟨ad324, e324, hx324_0⟩ := Kd.at_int (Kd.R_reads' HO_7.out).2.2 x9_1 p324 q324; cases e324
            replace p324 := eq_true p324; replace q324 := eq_true q324; have p326 : 0 ≤ (x9_1 : Int) := dT; have q326 : x9_1 < (t317.length : Int) := dT; obtain ⟨ad326, e326, hx326_0⟩ := Kd.at_int (Kd.R_reads' HO_7.out).2.2 x9_1 p326 q326; obtain rfl : ad324 = ad326 := (by injection e326); replace p326 := eq_true p326; replace q326 := eq_true q326; refine start_ (n := 14) (S := fun w' => w'.cell? (ad324.add (x9_1).toNat) = some (.int .i32 (rd t317 x9_1)) ∧ w'.cell? (ad324.add (x9_1).toNat) = some (.int .i32 (rd t317 x9_1))) (ds := []) #[false, false, false, false, false, false, false, false, false, false, false, false, false, false] (by kernel_rfl) rfl rfl ⟨hx324_0, hx326_0⟩ (fun hHeld => ?_); refine with_tabW arboristref03_both.tab9 arboristref03_both.bits9 (fun HT_ HW_ => ?_); generalize wc.drew = w71 at HO_0 HO_1 HO_7 HO_8 HB hx324_0 hx326_0 hHeld ⊢; refine pure_ (i := 0) (N := some 35) (v := ?_) (a' := ?_) #[true, false, false, false, false, false, false, false, false, false, false, false, false, false] rfl rfl (any_of HT_.out (by kernel_rfl)) (fun _ _ _ h => h) (Or.inl ⟨by rfl, ?_⟩) ?_ ?_; rotate_left
            ·intro w'; go_simp; with_reducible rfl
            rotate_left
            ·simp only [Act.put, sA, sZ, sS, i64_w, i32_w]; rfl
            refine pure_ (i := 1) (N := some 36) (v := ?_) (a' := ?_) #[true, true, false, false, false, false, false, false, false, false, false, false, false, false] rfl rfl (any_of HT_.out (by kernel_rfl)) (fun _ _ _ h => h) (Or.inl ⟨by rfl, ?_⟩) ?_ ?_; rotate_left
            ·intro w'; go_simp; with_reducible rfl
            rotate_left
            ·simp only [Act.put, sA, sZ, sS, i64_w, i32_w]; rfl
            refine pure_ (i := 2) (N := some 37) (v := ?_) (a' := ?_) #[true, true, true, false, false, false, false, false, false, false, false, false, false, false] rfl rfl (any_of HT_.out (by kernel_rfl)) (fun _ _ _ h => h) (Or.inl ⟨by rfl, ?_⟩) ?_ ?_; rotate_left
            ·intro w'; go_simp; with_reducible rfl
            rotate_left
            ·simp only [Act.put, sA, sZ, sS, i64_w, i32_w]; rfl
            refine pure_ (i := 3) (N := some 38) (v := ?_) (a' := ?_) #[true, true, true, true, false, false, false, false, false, false, false, false, false, false] rfl rfl (any_of HT_.out (by kernel_rfl)) (fun _ _ _ h => h) (Or.inl ⟨by rfl, ?_⟩) ?_ ?_; rotate_left
            ·intro w'; go_simp; with_reducible rfl
            rotate_left
            ·simp only [Act.put, sA, sZ, sS, i64_w, i32_w]; rfl
            refine pure_ (i := 6) (N := some 41) (v := ?_) (a' := ?_) #[true, true, true, true, false, false, true, false, false, false, false, false, false, false] rfl rfl (any_of HT_.out (by kernel_rfl)) (fun _ _ _ h => h) (Or.inl ⟨by rfl, ?_⟩) ?_ ?_; rotate_left
            ·intro w'; go_simp; with_reducible rfl
            rotate_left
            ·simp only [Act.put, sA, sZ, sS, i64_w, i32_w]; rfl
            refine pure_ (i := 7) (N := some 42) (v := ?_) (a' := ?_) #[true, true, true, true, false, false, true, true, false, false, false, false, false, false] rfl rfl (any_of HT_.out (by kernel_rfl)) (fun _ _ _ h => h) (Or.inl ⟨by rfl, ?_⟩) ?_ ?_; rotate_left
            ·intro w'; go_simp; with_reducible rfl
            rotate_left
            ·simp only [Act.put, sA, sZ, sS, i64_w, i32_w]; rfl
            refine pure_ (i := 8) (N := some 43) (v := ?_) (a' := ?_) #[true, true, true, true, false, false, true, true, true, false, false, false, false, false] rfl rfl (any_of HT_.out (by kernel_rfl)) (fun _ _ _ h => h) (Or.inl ⟨by rfl, ?_⟩) ?_ ?_; rotate_left
            ·intro w'; go_simp; with_reducible rfl
            rotate_left
            ·simp only [Act.put, sA, sZ, sS, i64_w, i32_w]; rfl
            refine pure_ (i := 9) (N := some 44) (v := ?_) (a' := ?_) #[true, true, true, true, false, false, true, true, true, true, false, false, false, false] rfl rfl (any_of HT_.out (by kernel_rfl)) (fun _ _ _ h => h) (Or.inl ⟨by rfl, ?_⟩) ?_ ?_; rotate_left
            ·intro w'; go_simp; with_reducible rfl
            rotate_left
            ·simp only [Act.put, sA, sZ, sS, i64_w, i32_w]; rfl
            refine take_ (i := 4) (N := some 39) (v := ?_) (a' := ?_) #[true, true, true, true, true, false, true, true, true, true, false, false, false, false] rfl rfl (take_ofW HT_.out HW_.out (by kernel_rfl)) (fun _ _ _ h => h) (Or.inl ⟨by rfl, ?_⟩) hHeld ?_ ?_; rotate_left
            ·rintro w' ⟨s0, s1⟩; go_simp; with_reducible rfl
            rotate_left
            ·simp only [Act.put, sA, sZ, sS, i64_w, i32_w]; rfl
            refine take_ (i := 10) (N := some 45) (v := ?_) (a' := ?_) #[true, true, true, true, true, false, true, true, true, true, true, false, false, false] rfl rfl (take_ofW HT_.out HW_.out (by kernel_rfl)) (fun _ _ _ h => h) (Or.inl ⟨by rfl, ?_⟩) hHeld ?_ ?_; rotate_left
            ·rintro w' ⟨s0, s1⟩; go_simp; with_reducible rfl
            rotate_left
            ·simp only [Act.put, sA, sZ, sS, i64_w, i32_w]; rfl
            refine one_ (i := 5) (N := some 40) #[true, true, true, true, true, true, true, true, true, true, true, false, false, false] rfl rfl (one_of HT_.out (by kernel_rfl)) (by decide) (fun K hK => ?_); refine goes_ Try.func18 (by kernel_rfl) rfl #[.slice A0 l0.length c0, .int .i32 (rd t317 x9_1)] (by rfl) rfl rfl mT ?_; with_reducible refine (arboristref03_Has.calls kj11 _ _ l0 (rd t317 x9_1) false _ ?side1 ?side2 A19.out).mono ?_
            (case side1 => exact Kd.C_t ((Kd.V_reads' HO_0.out).2.2)); (case side2 => exact (Kd.V_reads' HO_0.out).2.1); rintro e w72 ⟨rfl, hb⟩; have HS0_ := (hb.cell (World.block_lt_of_cell? _ _ (hHeld.1))).trans (hHeld.1); have HS1_ := (hb.cell (World.block_lt_of_cell? _ _ (hHeld.2))).trans (hHeld.2); refine ⟨_, rfl, ?_⟩; have n0_ := aM (Kd.V_below (Kd.V_t HO_0.out) hb); have n1_ := aM (Kd.V_below (Kd.V_t HO_1.out) hb); have n2_ := aM (Kd.R_below (Kd.R_t HO_7.out) hb); have n3_ := aM (Kd.R_below (Kd.R_t HO_8.out) hb); have n4_ := aM (below_step (hB_t HB.out) hb); clear HO_0; clear HO_1; clear HO_7; clear HO_8; clear HB; have HO_0 := n0_; have HO_1 := n1_; have HO_7 := n2_; have HO_8 := n3_; have HB := n4_; clear n0_ n1_ n2_ n3_ n4_; (try clear hb); (try clear hb2); (try clear hk); (try clear hi); refine hK.out _ _ ⟨HS0_, HS1_⟩ (fun hHeld => ?_); clear hK K; refine norm_ (a' := ?_) ?_ ?_; rotate_left
            ·show Act.put _ (some 40) _ = _
             simp only [Act.put, sA, sZ, sS, i64_w, i32_w]; rfl
            refine one_ (i := 11) (N := some 46) #[true, true, true, true, true, true, true, true, true, true, true, true, false, false] rfl rfl (one_of HT_.out (by kernel_rfl)) (by decide) (fun K hK => ?_); refine goes_ Try.func18 (by kernel_rfl) rfl #[.slice A1 l1.length c1, .int .i32 (rd t317 x9_1)] (by rfl) rfl rfl mT ?_; with_reducible refine (arboristref03_Has.calls kj11 _ _ l1 (rd t317 x9_1) t327 _ ?side1 ?side2 A20.out).mono ?_
            (case side1 => exact Kd.C_t ((Kd.V_reads' HO_1.out).2.2)); (case side2 => exact (Kd.V_reads' HO_1.out).2.1); rintro e w73 ⟨rfl, hb⟩; have HS0_ := (hb.cell (World.block_lt_of_cell? _ _ (hHeld.1))).trans (hHeld.1); have HS1_ := (hb.cell (World.block_lt_of_cell? _ _ (hHeld.2))).trans (hHeld.2); refine ⟨_, rfl, ?_⟩; have n0_ := aM (Kd.V_below (Kd.V_t HO_0.out) hb); have n1_ := aM (Kd.V_below (Kd.V_t HO_1.out) hb); have n2_ := aM (Kd.R_below (Kd.R_t HO_7.out) hb); have n3_ := aM (Kd.R_below (Kd.R_t HO_8.out) hb); have n4_ := aM (below_step (hB_t HB.out) hb); clear HO_0; clear HO_1; clear HO_7; clear HO_8; clear HB; have HO_0 := n0_; have HO_1 := n1_; have HO_7 := n2_; have HO_8 := n3_; have HB := n4_; clear n0_ n1_ n2_ n3_ n4_; (try clear hb); (try clear hb2); (try clear hk); (try clear hi); refine hK.out _ _ ⟨HS0_, HS1_⟩ (fun hHeld => ?_); clear hK K; refine norm_ (a' := ?_) ?_ ?_; rotate_left
            ·show Act.put _ (some 46) _ = _
             simp only [Act.put, sA, sZ, sS, i64_w, i32_w]; rfl
            refine pure_ (i := 12) (N := some 11) (v := ?_) (a' := ?_) #[true, true, true, true, true, true, true, true, true, true, true, true, true, false] rfl rfl (any_of HT_.out (by kernel_rfl)) (fun _ _ _ h => h) (Or.inl ⟨by rfl, ?_⟩) ?_ ?_; rotate_left
            ·intro w'; go_simp; with_reducible rfl
            rotate_left
            ·simp only [Act.put, sA, sZ, sS, i64_w, i32_w]; rfl
            refine pure_ (i := 13) (N := some 12) (v := ?_) (a' := ?_) #[true, true, true, true, true, true, true, true, true, true, true, true, true, true] rfl rfl (any_of HT_.out (by kernel_rfl)) (fun _ _ _ h => h) (Or.inl ⟨by rfl, ?_⟩) ?_ ?_; rotate_left
            ·intro w'; go_simp; with_reducible rfl
            rotate_left
            ·simp only [Act.put, sA, sZ, sS, i64_w, i32_w]; rfl
            refine done_ (done_of HT_.out (by kernel_rfl)) ?_; try go_wp2
            go_roundg kj11
            case measure => have := HK1.out; have := HJ11.out; omega
            case rel => exact ⟨(x8_1), (wrap64 (x9_1 + 1)), rT, H', ⟨by have := HK1.out; have := HJ11.out; omega⟩, ⟨Kd.V_t HO_0.out⟩, ⟨Kd.V_t HO_1.out⟩, ⟨Kd.R_t HO_7.out⟩, ⟨Kd.R_t HO_8.out⟩, ⟨hB_t HB.out⟩⟩
           ·rw [if_neg c70] at H; have c70b0 : (a2 == 3) = false := beq_eq_false_iff_ne.mpr c70; have c70b1 : (a2 != 3) = true := bne_iff_ne.mpr c70; have H' := aM H; clear H; try go_wp2
            have n0_ := aM (Kd.V_drew HO_0.out); have n1_ := aM (Kd.V_drew HO_1.out); have n2_ := aM (Kd.R_drew HO_7.out); have n3_ := aM (Kd.R_drew HO_8.out); have n4_ := aM (below_drew1 HB.out); clear HO_0; clear HO_1; clear HO_7; clear HO_8; clear HB; have HO_0 := n0_; have HO_1 := n1_; have HO_7 := n2_; have HO_8 := n3_; have HB := n4_; clear n0_ n1_ n2_ n3_ n4_; have p324 : 0 ≤ (x9_1 : Int) := dT; have q324 : x9_1 < (t317.length : Int) := dT; obtain ⟨ad324, e324, hx324_0⟩ := Kd.at_int (Kd.R_reads' HO_7.out).2.2 x9_1 p324 q324; cases e324
            replace p324 := eq_true p324; replace q324 := eq_true q324; have p326 : 0 ≤ (x9_1 : Int) := dT; have q326 : x9_1 < (t317.length : Int) := dT; obtain ⟨ad326, e326, hx326_0⟩ := Kd.at_int (Kd.R_reads' HO_7.out).2.2 x9_1 p326 q326; obtain rfl : ad324 = ad326 := (by injection e326); replace p326 := eq_true p326; replace q326 := eq_true q326; refine start_ (n := 14) (S := fun w' => w'.cell? (ad324.add (x9_1).toNat) = some (.int .i32 (rd t317 x9_1)) ∧ w'.cell? (ad324.add (x9_1).toNat) = some (.int .i32 (rd t317 x9_1))) (ds := []) #[false, false, false, false, false, false, false, false, false, false, false, false, false, false] (by kernel_rfl) rfl rfl ⟨hx324_0, hx326_0⟩ (fun hHeld => ?_); refine with_tabW arboristref03_both.tab9 arboristref03_both.bits9 (fun HT_ HW_ => ?_); generalize wc.drew = w74 at HO_0 HO_1 HO_7 HO_8 HB hx324_0 hx326_0 hHeld ⊢; refine pure_ (i := 0) (N := some 35) (v := ?_) (a' := ?_) #[true, false, false, false, false, false, false, false, false, false, false, false, false, false] rfl rfl (any_of HT_.out (by kernel_rfl)) (fun _ _ _ h => h) (Or.inl ⟨by rfl, ?_⟩) ?_ ?_; rotate_left
            ·intro w'; go_simp; with_reducible rfl
            rotate_left
            ·simp only [Act.put, sA, sZ, sS, i64_w, i32_w]; rfl
            refine pure_ (i := 1) (N := some 36) (v := ?_) (a' := ?_) #[true, true, false, false, false, false, false, false, false, false, false, false, false, false] rfl rfl (any_of HT_.out (by kernel_rfl)) (fun _ _ _ h => h) (Or.inl ⟨by rfl, ?_⟩) ?_ ?_; rotate_left
            ·intro w'; go_simp; with_reducible rfl
            rotate_left
            ·simp only [Act.put, sA, sZ, sS, i64_w, i32_w]; rfl
            refine pure_ (i := 2) (N := some 37) (v := ?_) (a' := ?_) #[true, true, true, false, false, false, false, false, false, false, false, false, false, false] rfl rfl (any_of HT_.out (by kernel_rfl)) (fun _ _ _ h => h) (Or.inl ⟨by rfl, ?_⟩) ?_ ?_; rotate_left
            ·intro w'; go_simp; with_reducible rfl
            rotate_left
            ·simp only [Act.put, sA, sZ, sS, i64_w, i32_w]; rfl
            refine pure_ (i := 3) (N := some 38) (v := ?_) (a' := ?_) #[true, true, true, true, false, false, false, false, false, false, false, false, false, false] rfl rfl (any_of HT_.out (by kernel_rfl)) (fun _ _ _ h => h) (Or.inl ⟨by rfl, ?_⟩) ?_ ?_; rotate_left
            ·intro w'; go_simp; with_reducible rfl
            rotate_left
            ·simp only [Act.put, sA, sZ, sS, i64_w, i32_w]; rfl
            refine pure_ (i := 6) (N := some 41) (v := ?_) (a' := ?_) #[true, true, true, true, false, false, true, false, false, false, false, false, false, false] rfl rfl (any_of HT_.out (by kernel_rfl)) (fun _ _ _ h => h) (Or.inl ⟨by rfl, ?_⟩) ?_ ?_; rotate_left
            ·intro w'; go_simp; with_reducible rfl
            rotate_left
            ·simp only [Act.put, sA, sZ, sS, i64_w, i32_w]; rfl
            refine pure_ (i := 7) (N := some 42) (v := ?_) (a' := ?_) #[true, true, true, true, false, false, true, true, false, false, false, false, false, false] rfl rfl (any_of HT_.out (by kernel_rfl)) (fun _ _ _ h => h) (Or.inl ⟨by rfl, ?_⟩) ?_ ?_; rotate_left
            ·intro w'; go_simp; with_reducible rfl
            rotate_left
            ·simp only [Act.put, sA, sZ, sS, i64_w, i32_w]; rfl
            refine pure_ (i := 8) (N := some 43) (v := ?_) (a' := ?_) #[true, true, true, true, false, false, true, true, true, false, false, false, false, false] rfl rfl (any_of HT_.out (by kernel_rfl)) (fun _ _ _ h => h) (Or.inl ⟨by rfl, ?_⟩) ?_ ?_; rotate_left
            ·intro w'; go_simp; with_reducible rfl
            rotate_left
            ·simp only [Act.put, sA, sZ, sS, i64_w, i32_w]; rfl
            refine pure_ (i := 9) (N := some 44) (v := ?_) (a' := ?_) #[true, true, true, true, false, false, true, true, true, true, false, false, false, false] rfl rfl (any_of HT_.out (by kernel_rfl)) (fun _ _ _ h => h) (Or.inl ⟨by rfl, ?_⟩) ?_ ?_; rotate_left
            ·intro w'; go_simp; with_reducible rfl
            rotate_left
            ·simp only [Act.put, sA, sZ, sS, i64_w, i32_w]; rfl
            refine take_ (i := 4) (N := some 39) (v := ?_) (a' := ?_) #[true, true, true, true, true, false, true, true, true, true, false, false, false, false] rfl rfl (take_ofW HT_.out HW_.out (by kernel_rfl)) (fun _ _ _ h => h) (Or.inl ⟨by rfl, ?_⟩) hHeld ?_ ?_; rotate_left
            ·rintro w' ⟨s0, s1⟩; go_simp; with_reducible rfl
            rotate_left
            ·simp only [Act.put, sA, sZ, sS, i64_w, i32_w]; rfl
            refine take_ (i := 10) (N := some 45) (v := ?_) (a' := ?_) #[true, true, true, true, true, false, true, true, true, true, true, false, false, false] rfl rfl (take_ofW HT_.out HW_.out (by kernel_rfl)) (fun _ _ _ h => h) (Or.inl ⟨by rfl, ?_⟩) hHeld ?_ ?_; rotate_left
            ·rintro w' ⟨s0, s1⟩; go_simp; with_reducible rfl
            rotate_left
            ·simp only [Act.put, sA, sZ, sS, i64_w, i32_w]; rfl
            refine one_ (i := 5) (N := some 40) #[true, true, true, true, true, true, true, true, true, true, true, false, false, false] rfl rfl (one_of HT_.out (by kernel_rfl)) (by decide) (fun K hK => ?_); refine goes_ Try.func18 (by kernel_rfl) rfl #[.slice A0 l0.length c0, .int .i32 (rd t317 x9_1)] (by rfl) rfl rfl mT ?_; with_reducible refine (arboristref03_Has.calls kj11 _ _ l0 (rd t317 x9_1) false _ ?side1 ?side2 A19.out).mono ?_
            (case side1 => exact Kd.C_t ((Kd.V_reads' HO_0.out).2.2)); (case side2 => exact (Kd.V_reads' HO_0.out).2.1); rintro e w75 ⟨rfl, hb⟩; have HS0_ := (hb.cell (World.block_lt_of_cell? _ _ (hHeld.1))).trans (hHeld.1); have HS1_ := (hb.cell (World.block_lt_of_cell? _ _ (hHeld.2))).trans (hHeld.2); refine ⟨_, rfl, ?_⟩; have n0_ := aM (Kd.V_below (Kd.V_t HO_0.out) hb); have n1_ := aM (Kd.V_below (Kd.V_t HO_1.out) hb); have n2_ := aM (Kd.R_below (Kd.R_t HO_7.out) hb); have n3_ := aM (Kd.R_below (Kd.R_t HO_8.out) hb); have n4_ := aM (below_step (hB_t HB.out) hb); clear HO_0; clear HO_1; clear HO_7; clear HO_8; clear HB; have HO_0 := n0_; have HO_1 := n1_; have HO_7 := n2_; have HO_8 := n3_; have HB := n4_; clear n0_ n1_ n2_ n3_ n4_; (try clear hb); (try clear hb2); (try clear hk); (try clear hi); refine hK.out _ _ ⟨HS0_, HS1_⟩ (fun hHeld => ?_); clear hK K; refine norm_ (a' := ?_) ?_ ?_; rotate_left
            ·show Act.put _ (some 40) _ = _
             simp only [Act.put, sA, sZ, sS, i64_w, i32_w]; rfl
            refine one_ (i := 11) (N := some 46) #[true, true, true, true, true, true, true, true, true, true, true, true, false, false] rfl rfl (one_of HT_.out (by kernel_rfl)) (by decide) (fun K hK => ?_); refine goes_ Try.func18 (by kernel_rfl) rfl #[.slice A1 l1.length c1, .int .i32 (rd t317 x9_1)] (by rfl) rfl rfl mT ?_; with_reducible refine (arboristref03_Has.calls kj11 _ _ l1 (rd t317 x9_1) t327 _ ?side1 ?side2 A20.out).mono ?_
            (case side1 => exact Kd.C_t ((Kd.V_reads' HO_1.out).2.2)); (case side2 => exact (Kd.V_reads' HO_1.out).2.1); rintro e w76 ⟨rfl, hb⟩; have HS0_ := (hb.cell (World.block_lt_of_cell? _ _ (hHeld.1))).trans (hHeld.1); have HS1_ := (hb.cell (World.block_lt_of_cell? _ _ (hHeld.2))).trans (hHeld.2); refine ⟨_, rfl, ?_⟩; have n0_ := aM (Kd.V_below (Kd.V_t HO_0.out) hb); have n1_ := aM (Kd.V_below (Kd.V_t HO_1.out) hb); have n2_ := aM (Kd.R_below (Kd.R_t HO_7.out) hb); have n3_ := aM (Kd.R_below (Kd.R_t HO_8.out) hb); have n4_ := aM (below_step (hB_t HB.out) hb); clear HO_0; clear HO_1; clear HO_7; clear HO_8; clear HB; have HO_0 := n0_; have HO_1 := n1_; have HO_7 := n2_; have HO_8 := n3_; have HB := n4_; clear n0_ n1_ n2_ n3_ n4_; (try clear hb); (try clear hb2); (try clear hk); (try clear hi); refine hK.out _ _ ⟨HS0_, HS1_⟩ (fun hHeld => ?_); clear hK K; refine norm_ (a' := ?_) ?_ ?_; rotate_left
            ·show Act.put _ (some 46) _ = _
             simp only [Act.put, sA, sZ, sS, i64_w, i32_w]; rfl
            refine pure_ (i := 12) (N := some 11) (v := ?_) (a' := ?_) #[true, true, true, true, true, true, true, true, true, true, true, true, true, false] rfl rfl (any_of HT_.out (by kernel_rfl)) (fun _ _ _ h => h) (Or.inl ⟨by rfl, ?_⟩) ?_ ?_; rotate_left
            ·intro w'; go_simp; with_reducible rfl
            rotate_left
            ·simp only [Act.put, sA, sZ, sS, i64_w, i32_w]; rfl
            refine pure_ (i := 13) (N := some 12) (v := ?_) (a' := ?_) #[true, true, true, true, true, true, true, true, true, true, true, true, true, true] rfl rfl (any_of HT_.out (by kernel_rfl)) (fun _ _ _ h => h) (Or.inl ⟨by rfl, ?_⟩) ?_ ?_; rotate_left
            ·intro w'; go_simp; with_reducible rfl
            rotate_left
            ·simp only [Act.put, sA, sZ, sS, i64_w, i32_w]; rfl
            refine done_ (done_of HT_.out (by kernel_rfl)) ?_; try go_wp2
            go_roundg kj11
            case measure => have := HK1.out; have := HJ11.out; omega
            case rel => exact ⟨(x8_1), (wrap64 (x9_1 + 1)), rT, H', ⟨by have := HK1.out; have := HJ11.out; omega⟩, ⟨Kd.V_t HO_0.out⟩, ⟨Kd.V_t HO_1.out⟩, ⟨Kd.R_t HO_7.out⟩, ⟨Kd.R_t HO_8.out⟩, ⟨hB_t HB.out⟩⟩
         ·rw [if_neg c51] at H; have c51b0 : (a2 == 2) = false := beq_eq_false_iff_ne.mpr c51; have c51b1 : (a2 != 2) = true := bne_iff_ne.mpr c51
          by_cases c77 : a2 = 3
          ·rw [if_pos c77] at H; have c77b0 : (a2 == 3) = true := beq_iff_eq.mpr c77; have c77b1 : (a2 != 3) = false := bne_eq_false_iff_eq.mpr c77; clear c77
           by_cases c78 : t325 = true
           ·subst c78; have H1 : (if t327 = true then (arboristref03_both.l0 kj11 l0 l1 a2 t317 x8_1 (wrap64 (x9_1 + 1))) else ((arboristref03_join.f x8_1 (rd t317 x9_1) x10_11).bind fun t345 => (arboristref03_both.l0 kj11 l0 l1 a2 t317 t345 (wrap64 (x9_1 + 1))))) = some r := by rw [if_pos rfl] at H; exact H
            clear H; have H := H1; clear H1
            by_cases c79 : t327 = true
            ·subst c79; have H1 : (arboristref03_both.l0 kj11 l0 l1 a2 t317 x8_1 (wrap64 (x9_1 + 1))) = some r := by rw [if_pos rfl] at H; exact H
             clear H; have H := H1; clear H1; have H' := aM H; clear H; try go_wp2
             have n0_ := aM (Kd.V_drew HO_0.out); have n1_ := aM (Kd.V_drew HO_1.out); have n2_ := aM (Kd.R_drew HO_7.out); have n3_ := aM (Kd.R_drew HO_8.out); have n4_ := aM (below_drew1 HB.out); clear HO_0; clear HO_1; clear HO_7; clear HO_8; clear HB; have HO_0 := n0_; have HO_1 := n1_; have HO_7 := n2_; have HO_8 := n3_; have HB := n4_; clear n0_ n1_ n2_ n3_ n4_; have p324 : 0 ≤ (x9_1 : Int) := dT; have q324 : x9_1 < (t317.length : Int) := dT; obtain ⟨ad324, e324, hx324_0⟩ := Kd.at_int (Kd.R_reads' HO_7.out).2.2 x9_1 p324 q324; cases e324
             replace p324 := eq_true p324; replace q324 := eq_true q324; have p326 : 0 ≤ (x9_1 : Int) := dT; have q326 : x9_1 < (t317.length : Int) := dT; obtain ⟨ad326, e326, hx326_0⟩ := Kd.at_int (Kd.R_reads' HO_7.out).2.2 x9_1 p326 q326; obtain rfl : ad324 = ad326 := (by injection e326); replace p326 := eq_true p326; replace q326 := eq_true q326; refine start_ (n := 14) (S := fun w' => w'.cell? (ad324.add (x9_1).toNat) = some (.int .i32 (rd t317 x9_1)) ∧ w'.cell? (ad324.add (x9_1).toNat) = some (.int .i32 (rd t317 x9_1))) (ds := []) #[false, false, false, false, false, false, false, false, false, false, false, false, false, false] (by kernel_rfl) rfl rfl ⟨hx324_0, hx326_0⟩ (fun hHeld => ?_); refine with_tabW arboristref03_both.tab9 arboristref03_both.bits9 (fun HT_ HW_ => ?_); generalize wc.drew = w80 at HO_0 HO_1 HO_7 HO_8 HB hx324_0 hx326_0 hHeld ⊢; refine pure_ (i := 0) (N := some 35) (v := ?_) (a' := ?_) #[true, false, false, false, false, false, false, false, false, false, false, false, false, false] rfl rfl (any_of HT_.out (by kernel_rfl)) (fun _ _ _ h => h) (Or.inl ⟨by rfl, ?_⟩) ?_ ?_; rotate_left
             ·intro w'; go_simp; with_reducible rfl
             rotate_left
             ·simp only [Act.put, sA, sZ, sS, i64_w, i32_w]; rfl
             refine pure_ (i := 1) (N := some 36) (v := ?_) (a' := ?_) #[true, true, false, false, false, false, false, false, false, false, false, false, false, false] rfl rfl (any_of HT_.out (by kernel_rfl)) (fun _ _ _ h => h) (Or.inl ⟨by rfl, ?_⟩) ?_ ?_; rotate_left
             ·intro w'; go_simp; with_reducible rfl
             rotate_left
             ·simp only [Act.put, sA, sZ, sS, i64_w, i32_w]; rfl
             refine pure_ (i := 2) (N := some 37) (v := ?_) (a' := ?_) #[true, true, true, false, false, false, false, false, false, false, false, false, false, false] rfl rfl (any_of HT_.out (by kernel_rfl)) (fun _ _ _ h => h) (Or.inl ⟨by rfl, ?_⟩) ?_ ?_; rotate_left
             ·intro w'; go_simp; with_reducible rfl
             rotate_left
             ·simp only [Act.put, sA, sZ, sS, i64_w, i32_w]; rfl
             refine pure_ (i := 3) (N := some 38) (v := ?_) (a' := ?_) #[true, true, true, true, false, false, false, false, false, false, false, false, false, false] rfl rfl (any_of HT_.out (by kernel_rfl)) (fun _ _ _ h => h) (Or.inl ⟨by rfl, ?_⟩) ?_ ?_; rotate_left
             ·intro w'; go_simp; with_reducible rfl
             rotate_left
             ·simp only [Act.put, sA, sZ, sS, i64_w, i32_w]; rfl
             refine pure_ (i := 6) (N := some 41) (v := ?_) (a' := ?_) #[true, true, true, true, false, false, true, false, false, false, false, false, false, false] rfl rfl (any_of HT_.out (by kernel_rfl)) (fun _ _ _ h => h) (Or.inl ⟨by rfl, ?_⟩) ?_ ?_; rotate_left
             ·intro w'; go_simp; with_reducible rfl
             rotate_left
             ·simp only [Act.put, sA, sZ, sS, i64_w, i32_w]; rfl
             refine pure_ (i := 7) (N := some 42) (v := ?_) (a' := ?_) #[true, true, true, true, false, false, true, true, false, false, false, false, false, false] rfl rfl (any_of HT_.out (by kernel_rfl)) (fun _ _ _ h => h) (Or.inl ⟨by rfl, ?_⟩) ?_ ?_; rotate_left
             ·intro w'; go_simp; with_reducible rfl
             rotate_left
             ·simp only [Act.put, sA, sZ, sS, i64_w, i32_w]; rfl
             refine pure_ (i := 8) (N := some 43) (v := ?_) (a' := ?_) #[true, true, true, true, false, false, true, true, true, false, false, false, false, false] rfl rfl (any_of HT_.out (by kernel_rfl)) (fun _ _ _ h => h) (Or.inl ⟨by rfl, ?_⟩) ?_ ?_; rotate_left
             ·intro w'; go_simp; with_reducible rfl
             rotate_left
             ·simp only [Act.put, sA, sZ, sS, i64_w, i32_w]; rfl
             refine pure_ (i := 9) (N := some 44) (v := ?_) (a' := ?_) #[true, true, true, true, false, false, true, true, true, true, false, false, false, false] rfl rfl (any_of HT_.out (by kernel_rfl)) (fun _ _ _ h => h) (Or.inl ⟨by rfl, ?_⟩) ?_ ?_; rotate_left
             ·intro w'; go_simp; with_reducible rfl
             rotate_left
             ·simp only [Act.put, sA, sZ, sS, i64_w, i32_w]; rfl
             refine take_ (i := 4) (N := some 39) (v := ?_) (a' := ?_) #[true, true, true, true, true, false, true, true, true, true, false, false, false, false] rfl rfl (take_ofW HT_.out HW_.out (by kernel_rfl)) (fun _ _ _ h => h) (Or.inl ⟨by rfl, ?_⟩) hHeld ?_ ?_; rotate_left
             ·rintro w' ⟨s0, s1⟩; go_simp; with_reducible rfl
             rotate_left
             ·simp only [Act.put, sA, sZ, sS, i64_w, i32_w]; rfl
             refine take_ (i := 10) (N := some 45) (v := ?_) (a' := ?_) #[true, true, true, true, true, false, true, true, true, true, true, false, false, false] rfl rfl (take_ofW HT_.out HW_.out (by kernel_rfl)) (fun _ _ _ h => h) (Or.inl ⟨by rfl, ?_⟩) hHeld ?_ ?_; rotate_left
             ·rintro w' ⟨s0, s1⟩; go_simp; with_reducible rfl
             rotate_left
             ·simp only [Act.put, sA, sZ, sS, i64_w, i32_w]; rfl
             refine one_ (i := 5) (N := some 40) #[true, true, true, true, true, true, true, true, true, true, true, false, false, false] rfl rfl (one_of HT_.out (by kernel_rfl)) (by decide) (fun K hK => ?_); refine goes_ Try.func18 (by kernel_rfl) rfl #[.slice A0 l0.length c0, .int .i32 (rd t317 x9_1)] (by rfl) rfl rfl mT ?_; with_reducible refine (arboristref03_Has.calls kj11 _ _ l0 (rd t317 x9_1) true _ ?side1 ?side2 A19.out).mono ?_
             (case side1 => exact Kd.C_t ((Kd.V_reads' HO_0.out).2.2)); (case side2 => exact (Kd.V_reads' HO_0.out).2.1); rintro e w81 ⟨rfl, hb⟩; have HS0_ := (hb.cell (World.block_lt_of_cell? _ _ (hHeld.1))).trans (hHeld.1); have HS1_ := (hb.cell (World.block_lt_of_cell? _ _ (hHeld.2))).trans (hHeld.2); refine ⟨_, rfl, ?_⟩; have n0_ := aM (Kd.V_below (Kd.V_t HO_0.out) hb); have n1_ := aM (Kd.V_below (Kd.V_t HO_1.out) hb); have n2_ := aM (Kd.R_below (Kd.R_t HO_7.out) hb); have n3_ := aM (Kd.R_below (Kd.R_t HO_8.out) hb); have n4_ := aM (below_step (hB_t HB.out) hb); clear HO_0; clear HO_1; clear HO_7; clear HO_8; clear HB; have HO_0 := n0_; have HO_1 := n1_; have HO_7 := n2_; have HO_8 := n3_; have HB := n4_; clear n0_ n1_ n2_ n3_ n4_; (try clear hb); (try clear hb2); (try clear hk); (try clear hi); refine hK.out _ _ ⟨HS0_, HS1_⟩ (fun hHeld => ?_); clear hK K; refine norm_ (a' := ?_) ?_ ?_; rotate_left
             ·show Act.put _ (some 40) _ = _
              simp only [Act.put, sA, sZ, sS, i64_w, i32_w]; rfl
             refine one_ (i := 11) (N := some 46) #[true, true, true, true, true, true, true, true, true, true, true, true, false, false] rfl rfl (one_of HT_.out (by kernel_rfl)) (by decide) (fun K hK => ?_); refine goes_ Try.func18 (by kernel_rfl) rfl #[.slice A1 l1.length c1, .int .i32 (rd t317 x9_1)] (by rfl) rfl rfl mT ?_; with_reducible refine (arboristref03_Has.calls kj11 _ _ l1 (rd t317 x9_1) true _ ?side1 ?side2 A20.out).mono ?_
             (case side1 => exact Kd.C_t ((Kd.V_reads' HO_1.out).2.2)); (case side2 => exact (Kd.V_reads' HO_1.out).2.1); rintro e w82 ⟨rfl, hb⟩; have HS0_ := (hb.cell (World.block_lt_of_cell? _ _ (hHeld.1))).trans (hHeld.1); have HS1_ := (hb.cell (World.block_lt_of_cell? _ _ (hHeld.2))).trans (hHeld.2); refine ⟨_, rfl, ?_⟩; have n0_ := aM (Kd.V_below (Kd.V_t HO_0.out) hb); have n1_ := aM (Kd.V_below (Kd.V_t HO_1.out) hb); have n2_ := aM (Kd.R_below (Kd.R_t HO_7.out) hb); have n3_ := aM (Kd.R_below (Kd.R_t HO_8.out) hb); have n4_ := aM (below_step (hB_t HB.out) hb); clear HO_0; clear HO_1; clear HO_7; clear HO_8; clear HB; have HO_0 := n0_; have HO_1 := n1_; have HO_7 := n2_; have HO_8 := n3_; have HB := n4_; clear n0_ n1_ n2_ n3_ n4_; (try clear hb); (try clear hb2); (try clear hk); (try clear hi); refine hK.out _ _ ⟨HS0_, HS1_⟩ (fun hHeld => ?_); clear hK K; refine norm_ (a' := ?_) ?_ ?_; rotate_left
             ·show Act.put _ (some 46) _ = _
              simp only [Act.put, sA, sZ, sS, i64_w, i32_w]; rfl
             refine pure_ (i := 12) (N := some 11) (v := ?_) (a' := ?_) #[true, true, true, true, true, true, true, true, true, true, true, true, true, false] rfl rfl (any_of HT_.out (by kernel_rfl)) (fun _ _ _ h => h) (Or.inl ⟨by rfl, ?_⟩) ?_ ?_; rotate_left
             ·intro w'; go_simp; with_reducible rfl
             rotate_left
             ·simp only [Act.put, sA, sZ, sS, i64_w, i32_w]; rfl
             refine pure_ (i := 13) (N := some 12) (v := ?_) (a' := ?_) #[true, true, true, true, true, true, true, true, true, true, true, true, true, true] rfl rfl (any_of HT_.out (by kernel_rfl)) (fun _ _ _ h => h) (Or.inl ⟨by rfl, ?_⟩) ?_ ?_; rotate_left
             ·intro w'; go_simp; with_reducible rfl
             rotate_left
             ·simp only [Act.put, sA, sZ, sS, i64_w, i32_w]; rfl
             refine done_ (done_of HT_.out (by kernel_rfl)) ?_; try go_wp2
             go_roundg kj11
             case measure => have := HK1.out; have := HJ11.out; omega
             case rel => exact ⟨(x8_1), (wrap64 (x9_1 + 1)), rT, H', ⟨by have := HK1.out; have := HJ11.out; omega⟩, ⟨Kd.V_t HO_0.out⟩, ⟨Kd.V_t HO_1.out⟩, ⟨Kd.R_t HO_7.out⟩, ⟨Kd.R_t HO_8.out⟩, ⟨hB_t HB.out⟩⟩
            ·replace c79 := Bool.eq_false_iff.mpr c79; subst c79; have H1 : ((arboristref03_join.f x8_1 (rd t317 x9_1) x10_11).bind fun t345 => (arboristref03_both.l0 kj11 l0 l1 a2 t317 t345 (wrap64 (x9_1 + 1)))) = some r := by rw [if_neg (show ¬ (false = true) by decide)] at H; exact H
             clear H; have H := H1; clear H1; replace H := Option.bind_eq_some_iff.mp H; obtain ⟨t345, A830, H⟩ := H; replace H : (arboristref03_both.l0 kj11 l0 l1 a2 t317 t345 (wrap64 (x9_1 + 1))) = some r := H; have A83 := aM A830; clear A830; have H' := aM H; clear H; try go_wp2
             have n0_ := aM (Kd.V_drew HO_0.out); have n1_ := aM (Kd.V_drew HO_1.out); have n2_ := aM (Kd.R_drew HO_7.out); have n3_ := aM (Kd.R_drew HO_8.out); have n4_ := aM (below_drew1 HB.out); clear HO_0; clear HO_1; clear HO_7; clear HO_8; clear HB; have HO_0 := n0_; have HO_1 := n1_; have HO_7 := n2_; have HO_8 := n3_; have HB := n4_; clear n0_ n1_ n2_ n3_ n4_; have p324 : 0 ≤ (x9_1 : Int) := dT; have q324 : x9_1 < (t317.length : Int) := dT; obtain ⟨ad324, e324, hx324_0⟩ := Kd.at_int (Kd.R_reads' HO_7.out).2.2 x9_1 p324 q324; cases e324
             replace p324 := eq_true p324; replace q324 := eq_true q324; have p326 : 0 ≤ (x9_1 : Int) := dT; have q326 : x9_1 < (t317.length : Int) := dT; obtain ⟨ad326, e326, hx326_0⟩ := Kd.at_int (Kd.R_reads' HO_7.out).2.2 x9_1 p326 q326; obtain rfl : ad324 = ad326 := (by injection e326); replace p326 := eq_true p326; replace q326 := eq_true q326; refine start_ (n := 14) (S := fun w' => w'.cell? (ad324.add (x9_1).toNat) = some (.int .i32 (rd t317 x9_1)) ∧ w'.cell? (ad324.add (x9_1).toNat) = some (.int .i32 (rd t317 x9_1))) (ds := []) #[false, false, false, false, false, false, false, false, false, false, false, false, false, false] (by kernel_rfl) rfl rfl ⟨hx324_0, hx326_0⟩ (fun hHeld => ?_); refine with_tabW arboristref03_both.tab9 arboristref03_both.bits9 (fun HT_ HW_ => ?_); generalize wc.drew = w84 at HO_0 HO_1 HO_7 HO_8 HB hx324_0 hx326_0 hHeld ⊢; refine pure_ (i := 0) (N := some 35) (v := ?_) (a' := ?_) #[true, false, false, false, false, false, false, false, false, false, false, false, false, false] rfl rfl (any_of HT_.out (by kernel_rfl)) (fun _ _ _ h => h) (Or.inl ⟨by rfl, ?_⟩) ?_ ?_; rotate_left
             ·intro w'; go_simp; with_reducible rfl
             rotate_left
             ·simp only [Act.put, sA, sZ, sS, i64_w, i32_w]; rfl
             refine pure_ (i := 1) (N := some 36) (v := ?_) (a' := ?_) #[true, true, false, false, false, false, false, false, false, false, false, false, false, false] rfl rfl (any_of HT_.out (by kernel_rfl)) (fun _ _ _ h => h) (Or.inl ⟨by rfl, ?_⟩) ?_ ?_; rotate_left
             ·intro w'; go_simp; with_reducible rfl
             rotate_left
             ·simp only [Act.put, sA, sZ, sS, i64_w, i32_w]; rfl
             refine pure_ (i := 2) (N := some 37) (v := ?_) (a' := ?_) #[true, true, true, false, false, false, false, false, false, false, false, false, false, false] rfl rfl (any_of HT_.out (by kernel_rfl)) (fun _ _ _ h => h) (Or.inl ⟨by rfl, ?_⟩) ?_ ?_; rotate_left
             ·intro w'; go_simp; with_reducible rfl
             rotate_left
             ·simp only [Act.put, sA, sZ, sS, i64_w, i32_w]; rfl
             refine pure_ (i := 3) (N := some 38) (v := ?_) (a' := ?_) #[true, true, true, true, false, false, false, false, false, false, false, false, false, false] rfl rfl (any_of HT_.out (by kernel_rfl)) (fun _ _ _ h => h) (Or.inl ⟨by rfl, ?_⟩) ?_ ?_; rotate_left
             ·intro w'; go_simp; with_reducible rfl
             rotate_left
             ·simp only [Act.put, sA, sZ, sS, i64_w, i32_w]; rfl
             refine pure_ (i := 6) (N := some 41) (v := ?_) (a' := ?_) #[true, true, true, true, false, false, true, false, false, false, false, false, false, false] rfl rfl (any_of HT_.out (by kernel_rfl)) (fun _ _ _ h => h) (Or.inl ⟨by rfl, ?_⟩) ?_ ?_; rotate_left
             ·intro w'; go_simp; with_reducible rfl
             rotate_left
             ·simp only [Act.put, sA, sZ, sS, i64_w, i32_w]; rfl
             refine pure_ (i := 7) (N := some 42) (v := ?_) (a' := ?_) #[true, true, true, true, false, false, true, true, false, false, false, false, false, false] rfl rfl (any_of HT_.out (by kernel_rfl)) (fun _ _ _ h => h) (Or.inl ⟨by rfl, ?_⟩) ?_ ?_; rotate_left
             ·intro w'; go_simp; with_reducible rfl
             rotate_left
             ·simp only [Act.put, sA, sZ, sS, i64_w, i32_w]; rfl
             refine pure_ (i := 8) (N := some 43) (v := ?_) (a' := ?_) #[true, true, true, true, false, false, true, true, true, false, false, false, false, false] rfl rfl (any_of HT_.out (by kernel_rfl)) (fun _ _ _ h => h) (Or.inl ⟨by rfl, ?_⟩) ?_ ?_; rotate_left
             ·intro w'; go_simp; with_reducible rfl
             rotate_left
             ·simp only [Act.put, sA, sZ, sS, i64_w, i32_w]; rfl
             refine pure_ (i := 9) (N := some 44) (v := ?_) (a' := ?_) #[true, true, true, true, false, false, true, true, true, true, false, false, false, false] rfl rfl (any_of HT_.out (by kernel_rfl)) (fun _ _ _ h => h) (Or.inl ⟨by rfl, ?_⟩) ?_ ?_; rotate_left
             ·intro w'; go_simp; with_reducible rfl
             rotate_left
             ·simp only [Act.put, sA, sZ, sS, i64_w, i32_w]; rfl
             refine take_ (i := 4) (N := some 39) (v := ?_) (a' := ?_) #[true, true, true, true, true, false, true, true, true, true, false, false, false, false] rfl rfl (take_ofW HT_.out HW_.out (by kernel_rfl)) (fun _ _ _ h => h) (Or.inl ⟨by rfl, ?_⟩) hHeld ?_ ?_; rotate_left
             ·rintro w' ⟨s0, s1⟩; go_simp; with_reducible rfl
             rotate_left
             ·simp only [Act.put, sA, sZ, sS, i64_w, i32_w]; rfl
             refine take_ (i := 10) (N := some 45) (v := ?_) (a' := ?_) #[true, true, true, true, true, false, true, true, true, true, true, false, false, false] rfl rfl (take_ofW HT_.out HW_.out (by kernel_rfl)) (fun _ _ _ h => h) (Or.inl ⟨by rfl, ?_⟩) hHeld ?_ ?_; rotate_left
             ·rintro w' ⟨s0, s1⟩; go_simp; with_reducible rfl
             rotate_left
             ·simp only [Act.put, sA, sZ, sS, i64_w, i32_w]; rfl
             refine one_ (i := 5) (N := some 40) #[true, true, true, true, true, true, true, true, true, true, true, false, false, false] rfl rfl (one_of HT_.out (by kernel_rfl)) (by decide) (fun K hK => ?_); refine goes_ Try.func18 (by kernel_rfl) rfl #[.slice A0 l0.length c0, .int .i32 (rd t317 x9_1)] (by rfl) rfl rfl mT ?_; with_reducible refine (arboristref03_Has.calls kj11 _ _ l0 (rd t317 x9_1) true _ ?side1 ?side2 A19.out).mono ?_
             (case side1 => exact Kd.C_t ((Kd.V_reads' HO_0.out).2.2)); (case side2 => exact (Kd.V_reads' HO_0.out).2.1); rintro e w85 ⟨rfl, hb⟩; have HS0_ := (hb.cell (World.block_lt_of_cell? _ _ (hHeld.1))).trans (hHeld.1); have HS1_ := (hb.cell (World.block_lt_of_cell? _ _ (hHeld.2))).trans (hHeld.2); refine ⟨_, rfl, ?_⟩; have n0_ := aM (Kd.V_below (Kd.V_t HO_0.out) hb); have n1_ := aM (Kd.V_below (Kd.V_t HO_1.out) hb); have n2_ := aM (Kd.R_below (Kd.R_t HO_7.out) hb); have n3_ := aM (Kd.R_below (Kd.R_t HO_8.out) hb); have n4_ := aM (below_step (hB_t HB.out) hb); clear HO_0; clear HO_1; clear HO_7; clear HO_8; clear HB; have HO_0 := n0_; have HO_1 := n1_; have HO_7 := n2_; have HO_8 := n3_; have HB := n4_; clear n0_ n1_ n2_ n3_ n4_; (try clear hb); (try clear hb2); (try clear hk); (try clear hi); refine hK.out _ _ ⟨HS0_, HS1_⟩ (fun hHeld => ?_); clear hK K; refine norm_ (a' := ?_) ?_ ?_; rotate_left
             ·show Act.put _ (some 40) _ = _
              simp only [Act.put, sA, sZ, sS, i64_w, i32_w]; rfl
             refine one_ (i := 11) (N := some 46) #[true, true, true, true, true, true, true, true, true, true, true, true, false, false] rfl rfl (one_of HT_.out (by kernel_rfl)) (by decide) (fun K hK => ?_); refine goes_ Try.func18 (by kernel_rfl) rfl #[.slice A1 l1.length c1, .int .i32 (rd t317 x9_1)] (by rfl) rfl rfl mT ?_; with_reducible refine (arboristref03_Has.calls kj11 _ _ l1 (rd t317 x9_1) false _ ?side1 ?side2 A20.out).mono ?_
             (case side1 => exact Kd.C_t ((Kd.V_reads' HO_1.out).2.2)); (case side2 => exact (Kd.V_reads' HO_1.out).2.1); rintro e w86 ⟨rfl, hb⟩; have HS0_ := (hb.cell (World.block_lt_of_cell? _ _ (hHeld.1))).trans (hHeld.1); have HS1_ := (hb.cell (World.block_lt_of_cell? _ _ (hHeld.2))).trans (hHeld.2); refine ⟨_, rfl, ?_⟩; have n0_ := aM (Kd.V_below (Kd.V_t HO_0.out) hb); have n1_ := aM (Kd.V_below (Kd.V_t HO_1.out) hb); have n2_ := aM (Kd.R_below (Kd.R_t HO_7.out) hb); have n3_ := aM (Kd.R_below (Kd.R_t HO_8.out) hb); have n4_ := aM (below_step (hB_t HB.out) hb); clear HO_0; clear HO_1; clear HO_7; clear HO_8; clear HB; have HO_0 := n0_; have HO_1 := n1_; have HO_7 := n2_; have HO_8 := n3_; have HB := n4_; clear n0_ n1_ n2_ n3_ n4_; (try clear hb); (try clear hb2); (try clear hk); (try clear hi); refine hK.out _ _ ⟨HS0_, HS1_⟩ (fun hHeld => ?_); clear hK K; refine norm_ (a' := ?_) ?_ ?_; rotate_left
             ·show Act.put _ (some 46) _ = _
              simp only [Act.put, sA, sZ, sS, i64_w, i32_w]; rfl
             refine pure_ (i := 12) (N := some 11) (v := ?_) (a' := ?_) #[true, true, true, true, true, true, true, true, true, true, true, true, true, false] rfl rfl (any_of HT_.out (by kernel_rfl)) (fun _ _ _ h => h) (Or.inl ⟨by rfl, ?_⟩) ?_ ?_; rotate_left
             ·intro w'; go_simp; with_reducible rfl
             rotate_left
             ·simp only [Act.put, sA, sZ, sS, i64_w, i32_w]; rfl
             refine pure_ (i := 13) (N := some 12) (v := ?_) (a' := ?_) #[true, true, true, true, true, true, true, true, true, true, true, true, true, true] rfl rfl (any_of HT_.out (by kernel_rfl)) (fun _ _ _ h => h) (Or.inl ⟨by rfl, ?_⟩) ?_ ?_; rotate_left
             ·intro w'; go_simp; with_reducible rfl
             rotate_left
             ·simp only [Act.put, sA, sZ, sS, i64_w, i32_w]; rfl
             refine done_ (done_of HT_.out (by kernel_rfl)) ?_; have p344 : 0 ≤ (x9_1 : Int) := dT; have q344 : x9_1 < (t317.length : Int) := dT; obtain ⟨ad344, e344, hx344_0⟩ := Kd.at_int (Kd.R_reads' HO_7.out).2.2 x9_1 p344 q344; obtain rfl : ad324 = ad344 := (by injection e344); replace p344 := eq_true p344; replace q344 := eq_true q344; obtain ⟨Ao87, co87, eo87⟩ := Kd.R_slice HO_8.out; subst eo87; try go_wp2_with (first | ((with_reducible refine gate_callee (f := 47) rfl ?_); refine goesL_ (some 82) rfl rfl Try.func47 (by kernel_rfl) rfl #[.slice Ao87 x8_1.length co87, .int .i32 (rd t317 x9_1), .int .i32 x10_11] rfl mT ?_; (with_reducible refine (arboristref03_join.calls (fun k_ => some k_ = (.slice Ao87 x8_1.length co87 : Value).ownBlock) (.slice Ao87 x8_1.length co87) x8_1 (rd t317 x9_1) x10_11 t345 w _ ?side1 ?side2 A83.out).mono ?_); (case side1 => repeat (first | (with_reducible first | exact HB.out | apply below_alloc | apply pw_below_drewN | apply below_drew1) | exact HB.out)); (case side2 => exact Kd.R_tight rfl HO_8.out); rintro e w88 ⟨v346, rfl, ho0, hb, hkp⟩; refine ⟨_, rfl, ?_⟩; have n0_ := aM (Kd.V_mono (ok' := fun k_ => ((P0_ k_ ∨ P1_ k_) ∨ w.heap.size ≤ k_) ∧ some k_ ≠ (.slice (some ad324) t317.length co13 : Value).ownBlock ∧ some k_ ≠ (v346 : Value).ownBlock) (Kd.V_keptB (HO_0.out) hkp (fun k_ hk_ hs_ => (hk_.2.2) hs_)) (fun k_ hk_ => ⟨hk_.1.1, hk_.1.2.1, fun e_ => Or.elim (ho0.1 k_ e_.symm) (fun hs_ => hk_.2.1 hs_) (fun hn_ => Nat.not_le.2 hk_.2.2 hn_)⟩)); have n1_ := aM (Kd.V_mono (ok' := fun k_ => ((P0_ k_ ∨ P1_ k_) ∨ w.heap.size ≤ k_) ∧ some k_ ≠ (.slice (some ad324) t317.length co13 : Value).ownBlock ∧ some k_ ≠ (v346 : Value).ownBlock) (Kd.V_keptB (HO_1.out) hkp (fun k_ hk_ hs_ => (hk_.2.2) hs_)) (fun k_ hk_ => ⟨hk_.1.1, hk_.1.2.1, fun e_ => Or.elim (ho0.1 k_ e_.symm) (fun hs_ => hk_.2.1 hs_) (fun hn_ => Nat.not_le.2 hk_.2.2 hn_)⟩)); have n2_ := aM (Kd.R_mono (ok' := fun k_ => (w.heap.size ≤ k_)) (Kd.R_keptB ((Kd.R_apart' HO_7.out (Kd.R_typed HO_8.out) (by decide))) hkp (fun k_ hk_ hs_ => (hk_.2) hs_)) (fun k_ hk_ => hk_.1.1)); have n3_ := aM (Kd.R_mono (ok' := fun k_ => (w.heap.size ≤ k_)) ho0 (fun k_ hk_ => Or.elim hk_ (fun hs_ => (HO_8.out.1 k_ (hs_).symm)) (fun hn_ => (Nat.le_trans (below_size (hB_t HB.out)) hn_)))); have n4_ := aM (hb); clear HO_0; clear HO_1; clear HO_7; clear HB; clear HO_8; have HO_0 := n0_; have HO_1 := n1_; have HO_7 := n2_; have HO347 := n3_; have HB := n4_; clear n0_ n1_ n2_ n3_ n4_; (try clear hb); (try clear hkp); (try clear ho0)))
             go_roundg kj11
             case measure => have := HK1.out; have := HJ11.out; omega
             case rel => exact ⟨(t345), (wrap64 (x9_1 + 1)), rT, H', ⟨by have := HK1.out; have := HJ11.out; omega⟩, ⟨Kd.V_t HO_0.out⟩, ⟨Kd.V_t HO_1.out⟩, ⟨Kd.R_t HO_7.out⟩, ⟨Kd.R_t HO347.out⟩, ⟨hB_t HB.out⟩⟩
           ·replace c78 := Bool.eq_false_iff.mpr c78; subst c78; have H1 : (arboristref03_both.l0 kj11 l0 l1 a2 t317 x8_1 (wrap64 (x9_1 + 1))) = some r := by rw [if_neg (show ¬ (false = true) by decide)] at H; exact H
            clear H; have H := H1; clear H1; have H' := aM H; clear H; try go_wp2
            have n0_ := aM (Kd.V_drew HO_0.out); have n1_ := aM (Kd.V_drew HO_1.out); have n2_ := aM (Kd.R_drew HO_7.out); have n3_ := aM (Kd.R_drew HO_8.out); have n4_ := aM (below_drew1 HB.out); clear HO_0; clear HO_1; clear HO_7; clear HO_8; clear HB; have HO_0 := n0_; have HO_1 := n1_; have HO_7 := n2_; have HO_8 := n3_; have HB := n4_; clear n0_ n1_ n2_ n3_ n4_; have p324 : 0 ≤ (x9_1 : Int) := dT; have q324 : x9_1 < (t317.length : Int) := dT; obtain ⟨ad324, e324, hx324_0⟩ := Kd.at_int (Kd.R_reads' HO_7.out).2.2 x9_1 p324 q324; cases e324
            replace p324 := eq_true p324; replace q324 := eq_true q324; have p326 : 0 ≤ (x9_1 : Int) := dT; have q326 : x9_1 < (t317.length : Int) := dT; obtain ⟨ad326, e326, hx326_0⟩ := Kd.at_int (Kd.R_reads' HO_7.out).2.2 x9_1 p326 q326; obtain rfl : ad324 = ad326 := (by injection e326); replace p326 := eq_true p326; replace q326 := eq_true q326; refine start_ (n := 14) (S := fun w' => w'.cell? (ad324.add (x9_1).toNat) = some (.int .i32 (rd t317 x9_1)) ∧ w'.cell? (ad324.add (x9_1).toNat) = some (.int .i32 (rd t317 x9_1))) (ds := []) #[false, false, false, false, false, false, false, false, false, false, false, false, false, false] (by kernel_rfl) rfl rfl ⟨hx324_0, hx326_0⟩ (fun hHeld => ?_); refine with_tabW arboristref03_both.tab9 arboristref03_both.bits9 (fun HT_ HW_ => ?_); generalize wc.drew = w89 at HO_0 HO_1 HO_7 HO_8 HB hx324_0 hx326_0 hHeld ⊢; refine pure_ (i := 0) (N := some 35) (v := ?_) (a' := ?_) #[true, false, false, false, false, false, false, false, false, false, false, false, false, false] rfl rfl (any_of HT_.out (by kernel_rfl)) (fun _ _ _ h => h) (Or.inl ⟨by rfl, ?_⟩) ?_ ?_; rotate_left
            ·intro w'; go_simp; with_reducible rfl
            rotate_left
            ·simp only [Act.put, sA, sZ, sS, i64_w, i32_w]; rfl
            refine pure_ (i := 1) (N := some 36) (v := ?_) (a' := ?_) #[true, true, false, false, false, false, false, false, false, false, false, false, false, false] rfl rfl (any_of HT_.out (by kernel_rfl)) (fun _ _ _ h => h) (Or.inl ⟨by rfl, ?_⟩) ?_ ?_; rotate_left
            ·intro w'; go_simp; with_reducible rfl
            rotate_left
            ·simp only [Act.put, sA, sZ, sS, i64_w, i32_w]; rfl
            refine pure_ (i := 2) (N := some 37) (v := ?_) (a' := ?_) #[true, true, true, false, false, false, false, false, false, false, false, false, false, false] rfl rfl (any_of HT_.out (by kernel_rfl)) (fun _ _ _ h => h) (Or.inl ⟨by rfl, ?_⟩) ?_ ?_; rotate_left
            ·intro w'; go_simp; with_reducible rfl
            rotate_left
            ·simp only [Act.put, sA, sZ, sS, i64_w, i32_w]; rfl
            refine pure_ (i := 3) (N := some 38) (v := ?_) (a' := ?_) #[true, true, true, true, false, false, false, false, false, false, false, false, false, false] rfl rfl (any_of HT_.out (by kernel_rfl)) (fun _ _ _ h => h) (Or.inl ⟨by rfl, ?_⟩) ?_ ?_; rotate_left
            ·intro w'; go_simp; with_reducible rfl
            rotate_left
            ·simp only [Act.put, sA, sZ, sS, i64_w, i32_w]; rfl
            refine pure_ (i := 6) (N := some 41) (v := ?_) (a' := ?_) #[true, true, true, true, false, false, true, false, false, false, false, false, false, false] rfl rfl (any_of HT_.out (by kernel_rfl)) (fun _ _ _ h => h) (Or.inl ⟨by rfl, ?_⟩) ?_ ?_; rotate_left
            ·intro w'; go_simp; with_reducible rfl
            rotate_left
            ·simp only [Act.put, sA, sZ, sS, i64_w, i32_w]; rfl
            refine pure_ (i := 7) (N := some 42) (v := ?_) (a' := ?_) #[true, true, true, true, false, false, true, true, false, false, false, false, false, false] rfl rfl (any_of HT_.out (by kernel_rfl)) (fun _ _ _ h => h) (Or.inl ⟨by rfl, ?_⟩) ?_ ?_; rotate_left
            ·intro w'; go_simp; with_reducible rfl
            rotate_left
            ·simp only [Act.put, sA, sZ, sS, i64_w, i32_w]; rfl
            refine pure_ (i := 8) (N := some 43) (v := ?_) (a' := ?_) #[true, true, true, true, false, false, true, true, true, false, false, false, false, false] rfl rfl (any_of HT_.out (by kernel_rfl)) (fun _ _ _ h => h) (Or.inl ⟨by rfl, ?_⟩) ?_ ?_; rotate_left
            ·intro w'; go_simp; with_reducible rfl
            rotate_left
            ·simp only [Act.put, sA, sZ, sS, i64_w, i32_w]; rfl
            refine pure_ (i := 9) (N := some 44) (v := ?_) (a' := ?_) #[true, true, true, true, false, false, true, true, true, true, false, false, false, false] rfl rfl (any_of HT_.out (by kernel_rfl)) (fun _ _ _ h => h) (Or.inl ⟨by rfl, ?_⟩) ?_ ?_; rotate_left
            ·intro w'; go_simp; with_reducible rfl
            rotate_left
            ·simp only [Act.put, sA, sZ, sS, i64_w, i32_w]; rfl
            refine take_ (i := 4) (N := some 39) (v := ?_) (a' := ?_) #[true, true, true, true, true, false, true, true, true, true, false, false, false, false] rfl rfl (take_ofW HT_.out HW_.out (by kernel_rfl)) (fun _ _ _ h => h) (Or.inl ⟨by rfl, ?_⟩) hHeld ?_ ?_; rotate_left
            ·rintro w' ⟨s0, s1⟩; go_simp; with_reducible rfl
            rotate_left
            ·simp only [Act.put, sA, sZ, sS, i64_w, i32_w]; rfl
            refine take_ (i := 10) (N := some 45) (v := ?_) (a' := ?_) #[true, true, true, true, true, false, true, true, true, true, true, false, false, false] rfl rfl (take_ofW HT_.out HW_.out (by kernel_rfl)) (fun _ _ _ h => h) (Or.inl ⟨by rfl, ?_⟩) hHeld ?_ ?_; rotate_left
            ·rintro w' ⟨s0, s1⟩; go_simp; with_reducible rfl
            rotate_left
            ·simp only [Act.put, sA, sZ, sS, i64_w, i32_w]; rfl
            refine one_ (i := 5) (N := some 40) #[true, true, true, true, true, true, true, true, true, true, true, false, false, false] rfl rfl (one_of HT_.out (by kernel_rfl)) (by decide) (fun K hK => ?_); refine goes_ Try.func18 (by kernel_rfl) rfl #[.slice A0 l0.length c0, .int .i32 (rd t317 x9_1)] (by rfl) rfl rfl mT ?_; with_reducible refine (arboristref03_Has.calls kj11 _ _ l0 (rd t317 x9_1) false _ ?side1 ?side2 A19.out).mono ?_
            (case side1 => exact Kd.C_t ((Kd.V_reads' HO_0.out).2.2)); (case side2 => exact (Kd.V_reads' HO_0.out).2.1); rintro e w90 ⟨rfl, hb⟩; have HS0_ := (hb.cell (World.block_lt_of_cell? _ _ (hHeld.1))).trans (hHeld.1); have HS1_ := (hb.cell (World.block_lt_of_cell? _ _ (hHeld.2))).trans (hHeld.2); refine ⟨_, rfl, ?_⟩; have n0_ := aM (Kd.V_below (Kd.V_t HO_0.out) hb); have n1_ := aM (Kd.V_below (Kd.V_t HO_1.out) hb); have n2_ := aM (Kd.R_below (Kd.R_t HO_7.out) hb); have n3_ := aM (Kd.R_below (Kd.R_t HO_8.out) hb); have n4_ := aM (below_step (hB_t HB.out) hb); clear HO_0; clear HO_1; clear HO_7; clear HO_8; clear HB; have HO_0 := n0_; have HO_1 := n1_; have HO_7 := n2_; have HO_8 := n3_; have HB := n4_; clear n0_ n1_ n2_ n3_ n4_; (try clear hb); (try clear hb2); (try clear hk); (try clear hi); refine hK.out _ _ ⟨HS0_, HS1_⟩ (fun hHeld => ?_); clear hK K; refine norm_ (a' := ?_) ?_ ?_; rotate_left
            ·show Act.put _ (some 40) _ = _
             simp only [Act.put, sA, sZ, sS, i64_w, i32_w]; rfl
            refine one_ (i := 11) (N := some 46) #[true, true, true, true, true, true, true, true, true, true, true, true, false, false] rfl rfl (one_of HT_.out (by kernel_rfl)) (by decide) (fun K hK => ?_); refine goes_ Try.func18 (by kernel_rfl) rfl #[.slice A1 l1.length c1, .int .i32 (rd t317 x9_1)] (by rfl) rfl rfl mT ?_; with_reducible refine (arboristref03_Has.calls kj11 _ _ l1 (rd t317 x9_1) t327 _ ?side1 ?side2 A20.out).mono ?_
            (case side1 => exact Kd.C_t ((Kd.V_reads' HO_1.out).2.2)); (case side2 => exact (Kd.V_reads' HO_1.out).2.1); rintro e w91 ⟨rfl, hb⟩; have HS0_ := (hb.cell (World.block_lt_of_cell? _ _ (hHeld.1))).trans (hHeld.1); have HS1_ := (hb.cell (World.block_lt_of_cell? _ _ (hHeld.2))).trans (hHeld.2); refine ⟨_, rfl, ?_⟩; have n0_ := aM (Kd.V_below (Kd.V_t HO_0.out) hb); have n1_ := aM (Kd.V_below (Kd.V_t HO_1.out) hb); have n2_ := aM (Kd.R_below (Kd.R_t HO_7.out) hb); have n3_ := aM (Kd.R_below (Kd.R_t HO_8.out) hb); have n4_ := aM (below_step (hB_t HB.out) hb); clear HO_0; clear HO_1; clear HO_7; clear HO_8; clear HB; have HO_0 := n0_; have HO_1 := n1_; have HO_7 := n2_; have HO_8 := n3_; have HB := n4_; clear n0_ n1_ n2_ n3_ n4_; (try clear hb); (try clear hb2); (try clear hk); (try clear hi); refine hK.out _ _ ⟨HS0_, HS1_⟩ (fun hHeld => ?_); clear hK K; refine norm_ (a' := ?_) ?_ ?_; rotate_left
            ·show Act.put _ (some 46) _ = _
             simp only [Act.put, sA, sZ, sS, i64_w, i32_w]; rfl
            refine pure_ (i := 12) (N := some 11) (v := ?_) (a' := ?_) #[true, true, true, true, true, true, true, true, true, true, true, true, true, false] rfl rfl (any_of HT_.out (by kernel_rfl)) (fun _ _ _ h => h) (Or.inl ⟨by rfl, ?_⟩) ?_ ?_; rotate_left
            ·intro w'; go_simp; with_reducible rfl
            rotate_left
            ·simp only [Act.put, sA, sZ, sS, i64_w, i32_w]; rfl
            refine pure_ (i := 13) (N := some 12) (v := ?_) (a' := ?_) #[true, true, true, true, true, true, true, true, true, true, true, true, true, true] rfl rfl (any_of HT_.out (by kernel_rfl)) (fun _ _ _ h => h) (Or.inl ⟨by rfl, ?_⟩) ?_ ?_; rotate_left
            ·intro w'; go_simp; with_reducible rfl
            rotate_left
            ·simp only [Act.put, sA, sZ, sS, i64_w, i32_w]; rfl
            refine done_ (done_of HT_.out (by kernel_rfl)) ?_; try go_wp2
            go_roundg kj11
            case measure => have := HK1.out; have := HJ11.out; omega
            case rel => exact ⟨(x8_1), (wrap64 (x9_1 + 1)), rT, H', ⟨by have := HK1.out; have := HJ11.out; omega⟩, ⟨Kd.V_t HO_0.out⟩, ⟨Kd.V_t HO_1.out⟩, ⟨Kd.R_t HO_7.out⟩, ⟨Kd.R_t HO_8.out⟩, ⟨hB_t HB.out⟩⟩
          ·rw [if_neg c77] at H; have c77b0 : (a2 == 3) = false := beq_eq_false_iff_ne.mpr c77; have c77b1 : (a2 != 3) = true := bne_iff_ne.mpr c77; have H' := aM H; clear H; try go_wp2
           have n0_ := aM (Kd.V_drew HO_0.out); have n1_ := aM (Kd.V_drew HO_1.out); have n2_ := aM (Kd.R_drew HO_7.out); have n3_ := aM (Kd.R_drew HO_8.out); have n4_ := aM (below_drew1 HB.out); clear HO_0; clear HO_1; clear HO_7; clear HO_8; clear HB; have HO_0 := n0_; have HO_1 := n1_; have HO_7 := n2_; have HO_8 := n3_; have HB := n4_; clear n0_ n1_ n2_ n3_ n4_; have p324 : 0 ≤ (x9_1 : Int) := dT; have q324 : x9_1 < (t317.length : Int) := dT; obtain ⟨ad324, e324, hx324_0⟩ := Kd.at_int (Kd.R_reads' HO_7.out).2.2 x9_1 p324 q324; cases e324
           replace p324 := eq_true p324; replace q324 := eq_true q324; have p326 : 0 ≤ (x9_1 : Int) := dT; have q326 : x9_1 < (t317.length : Int) := dT; obtain ⟨ad326, e326, hx326_0⟩ := Kd.at_int (Kd.R_reads' HO_7.out).2.2 x9_1 p326 q326; obtain rfl : ad324 = ad326 := (by injection e326); replace p326 := eq_true p326; replace q326 := eq_true q326; refine start_ (n := 14) (S := fun w' => w'.cell? (ad324.add (x9_1).toNat) = some (.int .i32 (rd t317 x9_1)) ∧ w'.cell? (ad324.add (x9_1).toNat) = some (.int .i32 (rd t317 x9_1))) (ds := []) #[false, false, false, false, false, false, false, false, false, false, false, false, false, false] (by kernel_rfl) rfl rfl ⟨hx324_0, hx326_0⟩ (fun hHeld => ?_); refine with_tabW arboristref03_both.tab9 arboristref03_both.bits9 (fun HT_ HW_ => ?_); generalize wc.drew = w92 at HO_0 HO_1 HO_7 HO_8 HB hx324_0 hx326_0 hHeld ⊢; refine pure_ (i := 0) (N := some 35) (v := ?_) (a' := ?_) #[true, false, false, false, false, false, false, false, false, false, false, false, false, false] rfl rfl (any_of HT_.out (by kernel_rfl)) (fun _ _ _ h => h) (Or.inl ⟨by rfl, ?_⟩) ?_ ?_; rotate_left
           ·intro w'; go_simp; with_reducible rfl
           rotate_left
           ·simp only [Act.put, sA, sZ, sS, i64_w, i32_w]; rfl
           refine pure_ (i := 1) (N := some 36) (v := ?_) (a' := ?_) #[true, true, false, false, false, false, false, false, false, false, false, false, false, false] rfl rfl (any_of HT_.out (by kernel_rfl)) (fun _ _ _ h => h) (Or.inl ⟨by rfl, ?_⟩) ?_ ?_; rotate_left
           ·intro w'; go_simp; with_reducible rfl
           rotate_left
           ·simp only [Act.put, sA, sZ, sS, i64_w, i32_w]; rfl
           refine pure_ (i := 2) (N := some 37) (v := ?_) (a' := ?_) #[true, true, true, false, false, false, false, false, false, false, false, false, false, false] rfl rfl (any_of HT_.out (by kernel_rfl)) (fun _ _ _ h => h) (Or.inl ⟨by rfl, ?_⟩) ?_ ?_; rotate_left
           ·intro w'; go_simp; with_reducible rfl
           rotate_left
           ·simp only [Act.put, sA, sZ, sS, i64_w, i32_w]; rfl
           refine pure_ (i := 3) (N := some 38) (v := ?_) (a' := ?_) #[true, true, true, true, false, false, false, false, false, false, false, false, false, false] rfl rfl (any_of HT_.out (by kernel_rfl)) (fun _ _ _ h => h) (Or.inl ⟨by rfl, ?_⟩) ?_ ?_; rotate_left
           ·intro w'; go_simp; with_reducible rfl
           rotate_left
           ·simp only [Act.put, sA, sZ, sS, i64_w, i32_w]; rfl
           refine pure_ (i := 6) (N := some 41) (v := ?_) (a' := ?_) #[true, true, true, true, false, false, true, false, false, false, false, false, false, false] rfl rfl (any_of HT_.out (by kernel_rfl)) (fun _ _ _ h => h) (Or.inl ⟨by rfl, ?_⟩) ?_ ?_; rotate_left
           ·intro w'; go_simp; with_reducible rfl
           rotate_left
           ·simp only [Act.put, sA, sZ, sS, i64_w, i32_w]; rfl
           refine pure_ (i := 7) (N := some 42) (v := ?_) (a' := ?_) #[true, true, true, true, false, false, true, true, false, false, false, false, false, false] rfl rfl (any_of HT_.out (by kernel_rfl)) (fun _ _ _ h => h) (Or.inl ⟨by rfl, ?_⟩) ?_ ?_; rotate_left
           ·intro w'; go_simp; with_reducible rfl
           rotate_left
           ·simp only [Act.put, sA, sZ, sS, i64_w, i32_w]; rfl
           refine pure_ (i := 8) (N := some 43) (v := ?_) (a' := ?_) #[true, true, true, true, false, false, true, true, true, false, false, false, false, false] rfl rfl (any_of HT_.out (by kernel_rfl)) (fun _ _ _ h => h) (Or.inl ⟨by rfl, ?_⟩) ?_ ?_; rotate_left
           ·intro w'; go_simp; with_reducible rfl
           rotate_left
           ·simp only [Act.put, sA, sZ, sS, i64_w, i32_w]; rfl
           refine pure_ (i := 9) (N := some 44) (v := ?_) (a' := ?_) #[true, true, true, true, false, false, true, true, true, true, false, false, false, false] rfl rfl (any_of HT_.out (by kernel_rfl)) (fun _ _ _ h => h) (Or.inl ⟨by rfl, ?_⟩) ?_ ?_; rotate_left
           ·intro w'; go_simp; with_reducible rfl
           rotate_left
           ·simp only [Act.put, sA, sZ, sS, i64_w, i32_w]; rfl
           refine take_ (i := 4) (N := some 39) (v := ?_) (a' := ?_) #[true, true, true, true, true, false, true, true, true, true, false, false, false, false] rfl rfl (take_ofW HT_.out HW_.out (by kernel_rfl)) (fun _ _ _ h => h) (Or.inl ⟨by rfl, ?_⟩) hHeld ?_ ?_; rotate_left
           ·rintro w' ⟨s0, s1⟩; go_simp; with_reducible rfl
           rotate_left
           ·simp only [Act.put, sA, sZ, sS, i64_w, i32_w]; rfl
           refine take_ (i := 10) (N := some 45) (v := ?_) (a' := ?_) #[true, true, true, true, true, false, true, true, true, true, true, false, false, false] rfl rfl (take_ofW HT_.out HW_.out (by kernel_rfl)) (fun _ _ _ h => h) (Or.inl ⟨by rfl, ?_⟩) hHeld ?_ ?_; rotate_left
           ·rintro w' ⟨s0, s1⟩; go_simp; with_reducible rfl
           rotate_left
           ·simp only [Act.put, sA, sZ, sS, i64_w, i32_w]; rfl
           refine one_ (i := 5) (N := some 40) #[true, true, true, true, true, true, true, true, true, true, true, false, false, false] rfl rfl (one_of HT_.out (by kernel_rfl)) (by decide) (fun K hK => ?_); refine goes_ Try.func18 (by kernel_rfl) rfl #[.slice A0 l0.length c0, .int .i32 (rd t317 x9_1)] (by rfl) rfl rfl mT ?_; with_reducible refine (arboristref03_Has.calls kj11 _ _ l0 (rd t317 x9_1) t325 _ ?side1 ?side2 A19.out).mono ?_
           (case side1 => exact Kd.C_t ((Kd.V_reads' HO_0.out).2.2)); (case side2 => exact (Kd.V_reads' HO_0.out).2.1); rintro e w93 ⟨rfl, hb⟩; have HS0_ := (hb.cell (World.block_lt_of_cell? _ _ (hHeld.1))).trans (hHeld.1); have HS1_ := (hb.cell (World.block_lt_of_cell? _ _ (hHeld.2))).trans (hHeld.2); refine ⟨_, rfl, ?_⟩; have n0_ := aM (Kd.V_below (Kd.V_t HO_0.out) hb); have n1_ := aM (Kd.V_below (Kd.V_t HO_1.out) hb); have n2_ := aM (Kd.R_below (Kd.R_t HO_7.out) hb); have n3_ := aM (Kd.R_below (Kd.R_t HO_8.out) hb); have n4_ := aM (below_step (hB_t HB.out) hb); clear HO_0; clear HO_1; clear HO_7; clear HO_8; clear HB; have HO_0 := n0_; have HO_1 := n1_; have HO_7 := n2_; have HO_8 := n3_; have HB := n4_; clear n0_ n1_ n2_ n3_ n4_; (try clear hb); (try clear hb2); (try clear hk); (try clear hi); refine hK.out _ _ ⟨HS0_, HS1_⟩ (fun hHeld => ?_); clear hK K; refine norm_ (a' := ?_) ?_ ?_; rotate_left
           ·show Act.put _ (some 40) _ = _
            simp only [Act.put, sA, sZ, sS, i64_w, i32_w]; rfl
           refine one_ (i := 11) (N := some 46) #[true, true, true, true, true, true, true, true, true, true, true, true, false, false] rfl rfl (one_of HT_.out (by kernel_rfl)) (by decide) (fun K hK => ?_); refine goes_ Try.func18 (by kernel_rfl) rfl #[.slice A1 l1.length c1, .int .i32 (rd t317 x9_1)] (by rfl) rfl rfl mT ?_; with_reducible refine (arboristref03_Has.calls kj11 _ _ l1 (rd t317 x9_1) t327 _ ?side1 ?side2 A20.out).mono ?_
           (case side1 => exact Kd.C_t ((Kd.V_reads' HO_1.out).2.2)); (case side2 => exact (Kd.V_reads' HO_1.out).2.1); rintro e w94 ⟨rfl, hb⟩; have HS0_ := (hb.cell (World.block_lt_of_cell? _ _ (hHeld.1))).trans (hHeld.1); have HS1_ := (hb.cell (World.block_lt_of_cell? _ _ (hHeld.2))).trans (hHeld.2); refine ⟨_, rfl, ?_⟩; have n0_ := aM (Kd.V_below (Kd.V_t HO_0.out) hb); have n1_ := aM (Kd.V_below (Kd.V_t HO_1.out) hb); have n2_ := aM (Kd.R_below (Kd.R_t HO_7.out) hb); have n3_ := aM (Kd.R_below (Kd.R_t HO_8.out) hb); have n4_ := aM (below_step (hB_t HB.out) hb); clear HO_0; clear HO_1; clear HO_7; clear HO_8; clear HB; have HO_0 := n0_; have HO_1 := n1_; have HO_7 := n2_; have HO_8 := n3_; have HB := n4_; clear n0_ n1_ n2_ n3_ n4_; (try clear hb); (try clear hb2); (try clear hk); (try clear hi); refine hK.out _ _ ⟨HS0_, HS1_⟩ (fun hHeld => ?_); clear hK K; refine norm_ (a' := ?_) ?_ ?_; rotate_left
           ·show Act.put _ (some 46) _ = _
            simp only [Act.put, sA, sZ, sS, i64_w, i32_w]; rfl
           refine pure_ (i := 12) (N := some 11) (v := ?_) (a' := ?_) #[true, true, true, true, true, true, true, true, true, true, true, true, true, false] rfl rfl (any_of HT_.out (by kernel_rfl)) (fun _ _ _ h => h) (Or.inl ⟨by rfl, ?_⟩) ?_ ?_; rotate_left
           ·intro w'; go_simp; with_reducible rfl
           rotate_left
           ·simp only [Act.put, sA, sZ, sS, i64_w, i32_w]; rfl
           refine pure_ (i := 13) (N := some 12) (v := ?_) (a' := ?_) #[true, true, true, true, true, true, true, true, true, true, true, true, true, true] rfl rfl (any_of HT_.out (by kernel_rfl)) (fun _ _ _ h => h) (Or.inl ⟨by rfl, ?_⟩) ?_ ?_; rotate_left
           ·intro w'; go_simp; with_reducible rfl
           rotate_left
           ·simp only [Act.put, sA, sZ, sS, i64_w, i32_w]; rfl
           refine done_ (done_of HT_.out (by kernel_rfl)) ?_; try go_wp2
           go_roundg kj11
           case measure => have := HK1.out; have := HJ11.out; omega
           case rel => exact ⟨(x8_1), (wrap64 (x9_1 + 1)), rT, H', ⟨by have := HK1.out; have := HJ11.out; omega⟩, ⟨Kd.V_t HO_0.out⟩, ⟨Kd.V_t HO_1.out⟩, ⟨Kd.R_t HO_7.out⟩, ⟨Kd.R_t HO_8.out⟩, ⟨hB_t HB.out⟩⟩
       ·rw [if_neg c18] at H; exact absurd H (by simp)
      ·rw [if_neg c17] at H; exact absurd H (by simp)
   ·rw [if_neg c11] at H; have c11b0 : decide (x9_1 < (t317.length : Int)) = false := decide_eq_false c11; clear c11; obtain rfl := Option.some.inj H; obtain ⟨Ao95, co95, eo95⟩ := Kd.R_slice HO_7.out; subst eo95; go_wp2
    go_ret
    exact ⟨_, rE, by (with_reducible repeat (first | apply Kd.R_alloc | apply Kd.R_drewN | apply Kd.R_drew)); exact HO_8.out, hB_t HB.out⟩

end Go.Proofs.Ytomccgpachmpbaa.PA
