-- WRITTEN BY pp.py out of the translation; Lean checks it.
import Derived.Test.YtomccgpachmpbaaPAx0
import Derived.Test.YtomccgpachmpbaaPAx3
import Derived.Test.YtomccgpachmpbaaPAx4
import Derived.Test.YtomccgpachmpbaaPAx6
import Derived.Test.YtomccgpachmpbaaPAx9
import Derived.Test.YtomccgpachmpbaaPAx10
namespace Go.Proofs.Ytomccgpachmpbaa.PA
open Go.RowKit Go.Proofs.YtomccgpachmpbaaW.PrintWords Go.Proofs.YtomccgpachmpbaaW.PrintLast Go.Proofs.YtomccgpachmpbaaW.PrintMore
attribute [local go_sem] max2_int min2_int max_two min_two max_three min_three max_four min_four   -- for this text's walks alone
set_option linter.unusedVariables false
set_option linter.unusedSimpArgs false

/-! ### arboristref03_Of: function 12 -/
def arboristref03_Of.f (k : Nat) (l0 : List (S41)) : Option ((List (S41))) := (arboristref03_both.f k l0 ([] : List (S41)) 1).bind fun t348 => (some t348)
set_option maxHeartbeats 8000000 in
set_option maxRecDepth 100000 in
theorem arboristref03_Of.calls (k : Nat) (A0 : Option Addr) (c0 : Nat) (l0 : List (S41)) (r : List (S41)) (w : World) (hr0 : Kd.C k41 w A0 l0.length l0) (hc0 : l0.length ≤ c0) (h : arboristref03_Of.f k l0 = some r) :
  Calls Try.prog 12 #[.slice A0 l0.length c0] w fun e w' => ∃ v0_ : Value, e = .returned (v0_) ∧ Kd.R k41 41 w' w.heap.size (fun _ => True) v0_ r ∧ Below w.heap.size w w' := by
 have HR0 := aM hr0; have HC0 := aM hc0; clear hr0 hc0; have HB := aM (Below.refl w.heap.size w); have H : ((arboristref03_both.f k l0 ([] : List (S41)) 1).bind fun t348 => (some t348)) = some r := h; clear h; replace H := Option.bind_eq_some_iff.mp H; obtain ⟨t348, A20, H⟩ := H; replace H : (some t348) = some r := H; have A2 := aM A20; clear A20; obtain rfl := Option.some.inj H; go_enter Try.func12, Try.ntmps12
 go_wp2_with (first | ((with_reducible refine gate_callee (f := 35) rfl ?_); refine goesL_ (some 4) rfl rfl Try.func35 (by kernel_rfl) rfl #[.slice A0 l0.length c0, .slice none 0 0, .int .i64 1] rfl mT ?_; (refine (arboristref03_both.calls k (fun k_ => k_ < w.heap.size) _ _ l0 (fun k_ => False) _ _ ([] : List (S41)) 1 t348 _ ?side1 ?side2 A2.out).mono ?_); (case side1 => exact Kd.V_mk HC0.out (Kd.F_below (Kd.C_F k41_heap HR0.out) (hB_t HB.out))); (case side2 => exact Kd.V_nil _ _ _ _ _); rintro e w3 ⟨v349, rfl, ho0, hb⟩; refine ⟨_, rfl, ?_⟩; have n0_ := aM (Kd.R_lower (Kd.R_mono (ok' := fun k_ => True) ho0 (fun _ hk_ => trivial)) (below_size (hB_t HB.out))); have n1_ := aM (below_step (hB_t HB.out) hb); clear HB; have HO350 := n0_; have HB := n1_; clear n0_ n1_; (try clear hb); (try clear hb2); (try clear hk); (try clear hi); (try clear ho0)))
 go_ret
 exact ⟨_, rE, by (with_reducible repeat (first | apply Kd.R_alloc | apply Kd.R_drewN | apply Kd.R_drew)); exact HO350.out, hB_t HB.out⟩

/-! ### arboristlaw03_CharsetMade: function 3 -/
def arboristlaw03_CharsetMade.f (k : Nat) (l0 : List (S41)) : Option (Bool) := if (l0.length : Int) > 60 then ((arboristlaw03_knows.f k).bind fun t351 => (some t351)) else ((charset_Of.f k l0).bind fun t352 => ((arboristref03_Of.f k l0).bind fun t355 => ((arboristref03_Same.f k t352 t355).bind fun t358 => (if t358 = true then ((charset_Right.f k t352).bind fun t359 => (if t359 = true then ((arboristlaw03_knows.f k).bind fun t360 => (some t360)) else (none))) else (none)))))
set_option maxHeartbeats 8000000 in
set_option maxRecDepth 100000 in
theorem arboristlaw03_CharsetMade.calls (k : Nat) (A0 : Option Addr) (c0 : Nat) (l0 : List (S41)) (r : Bool) (w : World) (hr0 : Kd.C k41 w A0 l0.length l0) (hc0 : l0.length ≤ c0) (h : arboristlaw03_CharsetMade.f k l0 = some r) :
  Calls Try.prog 3 #[.slice A0 l0.length c0] w fun e w' => e = .returned (.bool r) ∧ Below w.heap.size w w' := by
 have HR0 := aM hr0; have HC0 := aM hc0; clear hr0 hc0; have HB := aM (Below.refl w.heap.size w); have H : (if (l0.length : Int) > 60 then ((arboristlaw03_knows.f k).bind fun t351 => (some t351)) else ((charset_Of.f k l0).bind fun t352 => ((arboristref03_Of.f k l0).bind fun t355 => ((arboristref03_Same.f k t352 t355).bind fun t358 => (if t358 = true then ((charset_Right.f k t352).bind fun t359 => (if t359 = true then ((arboristlaw03_knows.f k).bind fun t360 => (some t360)) else (none))) else (none)))))) = some r := h; clear h
 by_cases c2 : (l0.length : Int) > 60
 ·rw [if_pos c2] at H; have c2b0 : decide (60 < (l0.length : Int)) = true := decide_eq_true c2; have c2b1 : decide (60 < l0.length) = true := decide_eq_true (by omega); clear c2; replace H := Option.bind_eq_some_iff.mp H; obtain ⟨t351, A30, H⟩ := H; replace H : (some t351) = some r := H; have A3 := aM A30; clear A30; obtain rfl := Option.some.inj H; go_enter Try.func3, Try.ntmps3
  go_wp2_with (first | ((with_reducible refine gate_callee (f := 9) rfl ?_); refine goesL_ (some 7) rfl rfl Try.func9 (by kernel_rfl) rfl #[] rfl mT ?_; (with_reducible refine (arboristlaw03_knows.calls k  t351 _ A3.out).mono ?_); rintro e w4 ⟨rfl, hb⟩; refine ⟨_, rfl, ?_⟩; have n0_ := aM (below_step (hB_t HB.out) hb); clear HB; have HB := n0_; clear n0_; (try clear hb); (try clear hb2); (try clear hk); (try clear hi)))
  go_ret
  exact ⟨rE, hB_t HB.out⟩
 ·rw [if_neg c2] at H; have c2b0 : decide (60 < (l0.length : Int)) = false := decide_eq_false c2; have c2b1 : decide (60 < l0.length) = false := decide_eq_false (by omega); clear c2; replace H := Option.bind_eq_some_iff.mp H; obtain ⟨t352, A50, H⟩ := H; replace H : ((arboristref03_Of.f k l0).bind fun t355 => ((arboristref03_Same.f k t352 t355).bind fun t358 => (if t358 = true then ((charset_Right.f k t352).bind fun t359 => (if t359 = true then ((arboristlaw03_knows.f k).bind fun t360 => (some t360)) else (none))) else (none)))) = some r := H; have A5 := aM A50; clear A50; replace H := Option.bind_eq_some_iff.mp H; obtain ⟨t355, A60, H⟩ := H; replace H : ((arboristref03_Same.f k t352 t355).bind fun t358 => (if t358 = true then ((charset_Right.f k t352).bind fun t359 => (if t359 = true then ((arboristlaw03_knows.f k).bind fun t360 => (some t360)) else (none))) else (none))) = some r := H; have A6 := aM A60; clear A60; replace H := Option.bind_eq_some_iff.mp H; obtain ⟨t358, A70, H⟩ := H; replace H : (if t358 = true then ((charset_Right.f k t352).bind fun t359 => (if t359 = true then ((arboristlaw03_knows.f k).bind fun t360 => (some t360)) else (none))) else (none)) = some r := H; have A7 := aM A70; clear A70
  by_cases c8 : t358 = true
  ·subst c8; have H1 : ((charset_Right.f k t352).bind fun t359 => (if t359 = true then ((arboristlaw03_knows.f k).bind fun t360 => (some t360)) else (none))) = some r := by rw [if_pos rfl] at H; exact H
   clear H; have H := H1; clear H1; replace H := Option.bind_eq_some_iff.mp H; obtain ⟨t359, A90, H⟩ := H; replace H : (if t359 = true then ((arboristlaw03_knows.f k).bind fun t360 => (some t360)) else (none)) = some r := H; have A9 := aM A90; clear A90
   by_cases c10 : t359 = true
   ·subst c10; have H1 : ((arboristlaw03_knows.f k).bind fun t360 => (some t360)) = some r := by rw [if_pos rfl] at H; exact H
    clear H; have H := H1; clear H1; replace H := Option.bind_eq_some_iff.mp H; obtain ⟨t360, A110, H⟩ := H; replace H : (some t360) = some r := H; have A11 := aM A110; clear A110; obtain rfl := Option.some.inj H; go_enter Try.func3, Try.ntmps3
    go_wp2_with (first | ((with_reducible refine gate_callee (f := 10) rfl ?_); refine goesL_ (some 9) rfl rfl Try.func10 (by kernel_rfl) rfl #[.slice A0 l0.length c0] rfl mT ?_; (with_reducible refine (charset_Of.calls k _ _ l0 t352 _ ?side1 ?side2 A5.out).mono ?_); (case side1 => exact Kd.C_t HR0.out); (case side2 => exact HC0.out); rintro e w12 ⟨v353, rfl, ho0, hb⟩; refine ⟨_, rfl, ?_⟩; have n0_ := aM (Kd.R_lower ho0 (below_size (hB_t HB.out))); have n1_ := aM (below_step (hB_t HB.out) hb); clear HB; have HO354 := n0_; have HB := n1_; clear n0_ n1_; (try clear hb); (try clear hb2); (try clear hk); (try clear hi); (try clear ho0)) | ((with_reducible refine gate_callee (f := 12) rfl ?_); refine goesL_ (some 12) rfl rfl Try.func12 (by kernel_rfl) rfl #[.slice A0 l0.length c0] rfl mT ?_; (with_reducible refine (arboristref03_Of.calls k _ _ l0 t355 _ ?side1 ?side2 A6.out).mono ?_); (case side1 => exact Kd.C_t (Kd.C_below HR0.out HB.out)); (case side2 => exact HC0.out); rintro e w13 ⟨v356, rfl, ho0, hb⟩; refine ⟨_, rfl, ?_⟩; have n0_ := aM (Kd.R_elder' (Kd.R_t HO354.out) (Kd.R_base ho0) hb); have n1_ := aM (Kd.R_lower (Kd.R_new' ho0 (Kd.R_lt (Kd.R_t HO354.out))) (below_size (hB_t HB.out))); have n2_ := aM (below_step (hB_t HB.out) hb); clear HO354; clear HB; have HO354 := n0_; have HO357 := n1_; have HB := n2_; clear n0_ n1_ n2_; (try clear hb); (try clear hb2); (try clear hk); (try clear hi); (try clear ho0); obtain ⟨Ao14, co14, eo14⟩ := Kd.R_slice HO354.out; subst eo14; obtain ⟨Ao15, co15, eo15⟩ := Kd.R_slice HO357.out; subst eo15) | ((with_reducible refine gate_callee (f := 11) rfl ?_); refine goesL_ (some 13) rfl rfl Try.func11 (by kernel_rfl) rfl #[.slice Ao14 t352.length co14, .slice Ao15 t355.length co15] rfl mT ?_; (with_reducible refine (arboristref03_Same.calls k _ _ t352 _ _ t355 true _ ?side1 ?side2 ?side3 ?side4 A7.out).mono ?_); (case side1 => exact Kd.C_t ((Kd.R_reads' HO354.out).2.2)); (case side2 => exact (Kd.R_reads' HO354.out).2.1); (case side3 => exact Kd.C_t ((Kd.R_reads' HO357.out).2.2)); (case side4 => exact (Kd.R_reads' HO357.out).2.1); rintro e w' ⟨rfl, ⟨nd, rfl⟩⟩; refine ⟨_, rfl, ?_⟩) | (go_at_call 13; (with_reducible refine (charset_Right.calls k _ _ t352 true _ ?side1 ?side2 A9.out).mono ?_); (case side1 => exact Kd.C_t ((Kd.R_reads' HO354.out).2.2)); (case side2 => exact (Kd.R_reads' HO354.out).2.1); rintro e w16 ⟨rfl, hb⟩; have n0_ := aM (Kd.R_below (Kd.R_t HO354.out) hb); have n1_ := aM (Kd.R_below (Kd.R_t HO357.out) hb); have n2_ := aM (below_step (hB_t HB.out) hb); clear HO354; clear HO357; clear HB; have HO354 := n0_; have HO357 := n1_; have HB := n2_; clear n0_ n1_ n2_; (try clear hb); (try clear hb2); (try clear hk); (try clear hi)) | (go_at_call 9; (with_reducible refine (arboristlaw03_knows.calls k  t360 _ A11.out).mono ?_); rintro e w17 ⟨rfl, hb⟩; have n0_ := aM (Kd.R_below (Kd.R_t HO354.out) hb); have n1_ := aM (Kd.R_below (Kd.R_t HO357.out) hb); have n2_ := aM (below_step (hB_t HB.out) hb); clear HO354; clear HO357; clear HB; have HO354 := n0_; have HO357 := n1_; have HB := n2_; clear n0_ n1_ n2_; (try clear hb); (try clear hb2); (try clear hk); (try clear hi)))
    go_ret
    exact ⟨rE, hB_t HB.out⟩
   ·replace c10 := Bool.eq_false_iff.mpr c10; subst c10; have H1 : (none) = some r := by rw [if_neg (show ¬ (false = true) by decide)] at H; exact H
    clear H; have H := H1; clear H1; exact absurd H (by simp)
  ·replace c8 := Bool.eq_false_iff.mpr c8; subst c8; have H1 : (none) = some r := by rw [if_neg (show ¬ (false = true) by decide)] at H; exact H
   clear H; have H := H1; clear H1; exact absurd H (by simp)

/-- THE ONE PURE STATEMENT of arboristlaw03_CharsetMade: yours. -/
def arboristlaw03_CharsetMade.Pure : Prop := ∀ (l0 : List (S41)), (l0.length * 8 ≤ 140737488351232 ∧ ∀ y ∈ l0, W41 y) → ∃ k, arboristlaw03_CharsetMade.f k l0 = some true
theorem arboristlaw03_CharsetMade.walk (P : arboristlaw03_CharsetMade.Pure) (l0 : List (S41)) (A0 : Option Addr) (c0 : Nat) (w : World) (wf0 : (l0.length * 8 ≤ 140737488351232 ∧ ∀ y ∈ l0, W41 y)) (hr0 : Kd.C k41 w A0 l0.length l0) (hc0 : l0.length ≤ c0) :
  Calls Try.prog 3 #[.slice A0 l0.length c0] w fun e w' => e = .returned (.bool true) ∧ Below w.heap.size w w' := by
 obtain ⟨k, h⟩ := P l0 wf0; refine (arboristlaw03_CharsetMade.calls k A0 c0 l0 true w hr0 hc0 h).mono ?_; rintro e w' ⟨rfl, hd⟩; exact ⟨rfl, hd⟩

/-! ### arboristref03_Right: function 14 -/
def arboristref03_Right.l0 : Nat → List (S41) → Int → Option (Bool)
 | 0, _, _ => none
 | k + 1, x0, x3 => if x3 < (x0.length : Int) then (if 0 ≤ x3 then (if ((rd_T41 x0 x3).f0) < 0 then (some false) else (if ((rd_T41 x0 x3).f0) > ((rd_T41 x0 x3).f1) then (some false) else (if ((rd_T41 x0 x3).f1) > 1114111 then (some false) else (if x3 > 0 then (if 0 ≤ (wrap64 (x3 - 1)) then (if (wrap64 (x3 - 1)) < (x0.length : Int) then (if ((rd_T41 x0 x3).f0) ≤ (wrap32 (((rd_T41 x0 (wrap64 (x3 - 1))).f1) + 1)) then (some false) else (arboristref03_Right.l0 k x0 (wrap64 (x3 + 1)))) else (none)) else (none)) else (arboristref03_Right.l0 k x0 (wrap64 (x3 + 1))))))) else (none)) else (some true)
def arboristref03_Right.f (k : Nat) (l0 : List (S41)) : Option (Bool) := arboristref03_Right.l0 k l0 0
set_option maxHeartbeats 8000000 in
set_option maxRecDepth 100000 in
theorem arboristref03_Right.calls (k : Nat) (A0 : Option Addr) (c0 : Nat) (l0 : List (S41)) (r : Bool) (w : World) (hr0 : Kd.C k41 w A0 l0.length l0) (hc0 : l0.length ≤ c0) (h : arboristref03_Right.f k l0 = some r) :
  Calls Try.prog 14 #[.slice A0 l0.length c0] w fun e w' => e = .returned (.bool r) ∧ Drawn0 w w' := by
 have HR0 := aM hr0; have HC0 := aM hc0; clear hr0 hc0; have H : (arboristref03_Right.l0 k l0 0) = some r := h; clear h; have H' := aM H; clear H; go_enter Try.func14, Try.ntmps14
 go_wp2
 repeat (go_quiet (fail); try go_wp2)
 go_loopg [3] k (fun kq v3 w' => ∃ (x3_1 : Int), v3 = .int .i64 x3_1 ∧ Aside0 (arboristref03_Right.l0 kq l0 x3_1 = some r) ∧ Aside0 (kq ≤ k) ∧ Drawn0 w w')
 case atStart => exact ⟨(0), rT, H', ⟨Nat.le_refl _⟩, by repeat (first | exact Drawn0.refl _ | apply Drawn0.step)⟩
 case round =>
  clear H'; (try clear c1); (try clear HK1); obtain ⟨x3_1, rfl, HA, HK1, ⟨m1, rfl⟩⟩ := hrel
  cases gk with
  | zero => exact absurd HA.out (by simp [arboristref03_Right.l0])
  | succ k1 =>
   have H := HA.out; clear HA; simp only [arboristref03_Right.l0] at H
   by_cases c2 : x3_1 < (l0.length : Int)
   ·rw [if_pos c2] at H; have c2b0 : decide (x3_1 < (l0.length : Int)) = true := decide_eq_true c2; clear c2
    by_cases c3 : 0 ≤ x3_1
    ·rw [if_pos c3] at H; have c3b0 : decide (0 ≤ x3_1) = true := decide_eq_true c3; clear c3
     by_cases c4 : ((rd_T41 l0 x3_1).f0) < 0
     ·rw [if_pos c4] at H; have c4b0 : decide (((rd_T41 l0 x3_1).f0) < 0) = true := decide_eq_true c4; clear c4; obtain rfl := Option.some.inj H; have p361 : 0 ≤ (x3_1 : Int) := dT; have q361 : x3_1 < (l0.length : Int) := dT; obtain ⟨ad361, e361, hx361_0, hx361_1⟩ := at_T41 HR0.out x3_1 p361 q361; cases e361
      replace p361 := eq_true p361; replace q361 := eq_true q361; go_wp2
      repeat (go_quiet (fail); try go_wp2)
      go_ret
      exact ⟨by first | rfl | (simp; done) | (simp [*]; done), by repeat (first | exact Drawn0.refl _ | apply Drawn0.step)⟩
     ·rw [if_neg c4] at H; have c4b0 : decide (((rd_T41 l0 x3_1).f0) < 0) = false := decide_eq_false c4; clear c4
      by_cases c5 : ((rd_T41 l0 x3_1).f0) > ((rd_T41 l0 x3_1).f1)
      ·rw [if_pos c5] at H; have c5b0 : decide (((rd_T41 l0 x3_1).f1) < ((rd_T41 l0 x3_1).f0)) = true := decide_eq_true c5; clear c5; obtain rfl := Option.some.inj H; have p361 : 0 ≤ (x3_1 : Int) := dT; have q361 : x3_1 < (l0.length : Int) := dT; obtain ⟨ad361, e361, hx361_0, hx361_1⟩ := at_T41 HR0.out x3_1 p361 q361; cases e361
       replace p361 := eq_true p361; replace q361 := eq_true q361; have p362 : 0 ≤ (x3_1 : Int) := dT; have q362 : x3_1 < (l0.length : Int) := dT; obtain ⟨ad362, e362, hx362_0, hx362_1⟩ := at_T41 HR0.out x3_1 p362 q362; obtain rfl : ad361 = ad362 := (by injection e362); replace p362 := eq_true p362; replace q362 := eq_true q362; have p363 : 0 ≤ (x3_1 : Int) := dT; have q363 : x3_1 < (l0.length : Int) := dT; obtain ⟨ad363, e363, hx363_0, hx363_1⟩ := at_T41 HR0.out x3_1 p363 q363; obtain rfl : ad361 = ad363 := (by injection e363); replace p363 := eq_true p363; replace q363 := eq_true q363; go_wp2
       repeat (go_quiet (fail); try go_wp2)
       go_ret
       exact ⟨by first | rfl | (simp; done) | (simp [*]; done), by repeat (first | exact Drawn0.refl _ | apply Drawn0.step)⟩
      ·rw [if_neg c5] at H; have c5b0 : decide (((rd_T41 l0 x3_1).f1) < ((rd_T41 l0 x3_1).f0)) = false := decide_eq_false c5; clear c5
       by_cases c6 : ((rd_T41 l0 x3_1).f1) > 1114111
       ·rw [if_pos c6] at H; have c6b0 : decide (1114111 < ((rd_T41 l0 x3_1).f1)) = true := decide_eq_true c6; clear c6; obtain rfl := Option.some.inj H; have p361 : 0 ≤ (x3_1 : Int) := dT; have q361 : x3_1 < (l0.length : Int) := dT; obtain ⟨ad361, e361, hx361_0, hx361_1⟩ := at_T41 HR0.out x3_1 p361 q361; cases e361
        replace p361 := eq_true p361; replace q361 := eq_true q361; have p362 : 0 ≤ (x3_1 : Int) := dT; have q362 : x3_1 < (l0.length : Int) := dT; obtain ⟨ad362, e362, hx362_0, hx362_1⟩ := at_T41 HR0.out x3_1 p362 q362; obtain rfl : ad361 = ad362 := (by injection e362); replace p362 := eq_true p362; replace q362 := eq_true q362; have p363 : 0 ≤ (x3_1 : Int) := dT; have q363 : x3_1 < (l0.length : Int) := dT; obtain ⟨ad363, e363, hx363_0, hx363_1⟩ := at_T41 HR0.out x3_1 p363 q363; obtain rfl : ad361 = ad363 := (by injection e363); replace p363 := eq_true p363; replace q363 := eq_true q363; have p364 : 0 ≤ (x3_1 : Int) := dT; have q364 : x3_1 < (l0.length : Int) := dT; obtain ⟨ad364, e364, hx364_0, hx364_1⟩ := at_T41 HR0.out x3_1 p364 q364; obtain rfl : ad361 = ad364 := (by injection e364); replace p364 := eq_true p364; replace q364 := eq_true q364; go_wp2
        repeat (go_quiet (fail); try go_wp2)
        go_ret
        exact ⟨by first | rfl | (simp; done) | (simp [*]; done), by repeat (first | exact Drawn0.refl _ | apply Drawn0.step)⟩
       ·rw [if_neg c6] at H; have c6b0 : decide (1114111 < ((rd_T41 l0 x3_1).f1)) = false := decide_eq_false c6; clear c6
        by_cases c7 : x3_1 > 0
        ·rw [if_pos c7] at H; have c7b0 : decide (0 < x3_1) = true := decide_eq_true c7; clear c7; obtain ⟨ji8, hji8⟩ : ∃ j_ : Int, (wrap64 (x3_1 - 1)) = j_ := ⟨_, rfl⟩; replace H : (if 0 ≤ (ji8) then (if (ji8) < (l0.length : Int) then (if ((rd_T41 l0 x3_1).f0) ≤ (wrap32 (((rd_T41 l0 (ji8)).f1) + 1)) then (some false) else (arboristref03_Right.l0 k1 l0 (wrap64 (x3_1 + 1)))) else (none)) else (none)) = some r := by first | (rw [hji8] at H; exact H) | (simp only [hji8] at H ⊢; exact H)
         have hji8w : (IntKind.i64.wrap (x3_1 - 1)) = ji8 := (i64_w _).trans hji8
         by_cases c9 : 0 ≤ (ji8)
         ·rw [if_pos c9] at H; have c9b0 : decide (0 ≤ (ji8)) = true := decide_eq_true c9; clear c9
          by_cases c10 : (ji8) < (l0.length : Int)
          ·rw [if_pos c10] at H; have c10b0 : decide ((ji8) < (l0.length : Int)) = true := decide_eq_true c10; clear c10
           by_cases c11 : ((rd_T41 l0 x3_1).f0) ≤ (wrap32 (((rd_T41 l0 (ji8)).f1) + 1))
           ·rw [if_pos c11] at H; have c11b0 : decide (((rd_T41 l0 x3_1).f0) ≤ (wrap32 (((rd_T41 l0 (ji8)).f1) + 1))) = true := decide_eq_true c11; clear c11; obtain rfl := Option.some.inj H; have p361 : 0 ≤ (x3_1 : Int) := dT; have q361 : x3_1 < (l0.length : Int) := dT; obtain ⟨ad361, e361, hx361_0, hx361_1⟩ := at_T41 HR0.out x3_1 p361 q361; cases e361
            replace p361 := eq_true p361; replace q361 := eq_true q361; have p362 : 0 ≤ (x3_1 : Int) := dT; have q362 : x3_1 < (l0.length : Int) := dT; obtain ⟨ad362, e362, hx362_0, hx362_1⟩ := at_T41 HR0.out x3_1 p362 q362; obtain rfl : ad361 = ad362 := (by injection e362); replace p362 := eq_true p362; replace q362 := eq_true q362; have p363 : 0 ≤ (x3_1 : Int) := dT; have q363 : x3_1 < (l0.length : Int) := dT; obtain ⟨ad363, e363, hx363_0, hx363_1⟩ := at_T41 HR0.out x3_1 p363 q363; obtain rfl : ad361 = ad363 := (by injection e363); replace p363 := eq_true p363; replace q363 := eq_true q363; have p364 : 0 ≤ (x3_1 : Int) := dT; have q364 : x3_1 < (l0.length : Int) := dT; obtain ⟨ad364, e364, hx364_0, hx364_1⟩ := at_T41 HR0.out x3_1 p364 q364; obtain rfl : ad361 = ad364 := (by injection e364); replace p364 := eq_true p364; replace q364 := eq_true q364; have p365 : 0 ≤ (x3_1 : Int) := dT; have q365 : x3_1 < (l0.length : Int) := dT; obtain ⟨ad365, e365, hx365_0, hx365_1⟩ := at_T41 HR0.out x3_1 p365 q365; obtain rfl : ad361 = ad365 := (by injection e365); replace p365 := eq_true p365; replace q365 := eq_true q365; have p366 : 0 ≤ ((ji8) : Int) := dT; have q366 : (ji8) < (l0.length : Int) := dT; obtain ⟨ad366, e366, hx366_0, hx366_1⟩ := at_T41 HR0.out (ji8) p366 q366; obtain rfl : ad361 = ad366 := (by injection e366); replace p366 := eq_true p366; replace q366 := eq_true q366; go_wp2
            repeat (go_quiet (fail); try go_wp2)
            go_ret
            exact ⟨by first | rfl | (simp; done) | (simp only [← hji8] <;> (first | rfl | simp)) | (simp [*]; done), by repeat (first | exact Drawn0.refl _ | apply Drawn0.step)⟩
           ·rw [if_neg c11] at H; have c11b0 : decide (((rd_T41 l0 x3_1).f0) ≤ (wrap32 (((rd_T41 l0 (ji8)).f1) + 1))) = false := decide_eq_false c11; clear c11; have H' := aM H; clear H; have p361 : 0 ≤ (x3_1 : Int) := dT; have q361 : x3_1 < (l0.length : Int) := dT; obtain ⟨ad361, e361, hx361_0, hx361_1⟩ := at_T41 HR0.out x3_1 p361 q361; cases e361
            replace p361 := eq_true p361; replace q361 := eq_true q361; have p362 : 0 ≤ (x3_1 : Int) := dT; have q362 : x3_1 < (l0.length : Int) := dT; obtain ⟨ad362, e362, hx362_0, hx362_1⟩ := at_T41 HR0.out x3_1 p362 q362; obtain rfl : ad361 = ad362 := (by injection e362); replace p362 := eq_true p362; replace q362 := eq_true q362; have p363 : 0 ≤ (x3_1 : Int) := dT; have q363 : x3_1 < (l0.length : Int) := dT; obtain ⟨ad363, e363, hx363_0, hx363_1⟩ := at_T41 HR0.out x3_1 p363 q363; obtain rfl : ad361 = ad363 := (by injection e363); replace p363 := eq_true p363; replace q363 := eq_true q363; have p364 : 0 ≤ (x3_1 : Int) := dT; have q364 : x3_1 < (l0.length : Int) := dT; obtain ⟨ad364, e364, hx364_0, hx364_1⟩ := at_T41 HR0.out x3_1 p364 q364; obtain rfl : ad361 = ad364 := (by injection e364); replace p364 := eq_true p364; replace q364 := eq_true q364; have p365 : 0 ≤ (x3_1 : Int) := dT; have q365 : x3_1 < (l0.length : Int) := dT; obtain ⟨ad365, e365, hx365_0, hx365_1⟩ := at_T41 HR0.out x3_1 p365 q365; obtain rfl : ad361 = ad365 := (by injection e365); replace p365 := eq_true p365; replace q365 := eq_true q365; have p366 : 0 ≤ ((ji8) : Int) := dT; have q366 : (ji8) < (l0.length : Int) := dT; obtain ⟨ad366, e366, hx366_0, hx366_1⟩ := at_T41 HR0.out (ji8) p366 q366; obtain rfl : ad361 = ad366 := (by injection e366); replace p366 := eq_true p366; replace q366 := eq_true q366; go_wp2
            repeat (go_quiet (fail); try go_wp2)
            go_roundg k1
            case measure => have := HK1.out; omega
            case rel => exact ⟨(wrap64 (x3_1 + 1)), rT, H', ⟨by have := HK1.out; omega⟩, by repeat (first | exact Drawn0.refl _ | apply Drawn0.step)⟩
          ·rw [if_neg c10] at H; exact absurd H (by simp)
         ·rw [if_neg c9] at H; exact absurd H (by simp)
        ·rw [if_neg c7] at H; have c7b0 : decide (0 < x3_1) = false := decide_eq_false c7; clear c7; have H' := aM H; clear H; have p361 : 0 ≤ (x3_1 : Int) := dT; have q361 : x3_1 < (l0.length : Int) := dT; obtain ⟨ad361, e361, hx361_0, hx361_1⟩ := at_T41 HR0.out x3_1 p361 q361; cases e361
         replace p361 := eq_true p361; replace q361 := eq_true q361; have p362 : 0 ≤ (x3_1 : Int) := dT; have q362 : x3_1 < (l0.length : Int) := dT; obtain ⟨ad362, e362, hx362_0, hx362_1⟩ := at_T41 HR0.out x3_1 p362 q362; obtain rfl : ad361 = ad362 := (by injection e362); replace p362 := eq_true p362; replace q362 := eq_true q362; have p363 : 0 ≤ (x3_1 : Int) := dT; have q363 : x3_1 < (l0.length : Int) := dT; obtain ⟨ad363, e363, hx363_0, hx363_1⟩ := at_T41 HR0.out x3_1 p363 q363; obtain rfl : ad361 = ad363 := (by injection e363); replace p363 := eq_true p363; replace q363 := eq_true q363; have p364 : 0 ≤ (x3_1 : Int) := dT; have q364 : x3_1 < (l0.length : Int) := dT; obtain ⟨ad364, e364, hx364_0, hx364_1⟩ := at_T41 HR0.out x3_1 p364 q364; obtain rfl : ad361 = ad364 := (by injection e364); replace p364 := eq_true p364; replace q364 := eq_true q364; go_wp2
         repeat (go_quiet (fail); try go_wp2)
         go_roundg k1
         case measure => have := HK1.out; omega
         case rel => exact ⟨(wrap64 (x3_1 + 1)), rT, H', ⟨by have := HK1.out; omega⟩, by repeat (first | exact Drawn0.refl _ | apply Drawn0.step)⟩
    ·rw [if_neg c3] at H; exact absurd H (by simp)
   ·rw [if_neg c2] at H; have c2b0 : decide (x3_1 < (l0.length : Int)) = false := decide_eq_false c2; clear c2; obtain rfl := Option.some.inj H; go_wp2
    repeat (go_quiet (fail); try go_wp2)
    go_ret
    exact ⟨by first | rfl | (simp; done) | (simp [*]; done), by repeat (first | exact Drawn0.refl _ | apply Drawn0.step)⟩

/-! ### charset_Size: function 15 -/
def charset_Size.l0 : Nat → Int → List (S41) → Int → Int → Option (Int)
 | 0, _, _, _, _ => none
 | k + 1, x3, x7, x8, x9 => if x9 < x8 then (if 0 ≤ x9 then (if x9 < (x7.length : Int) then (charset_Size.l0 k (wrap64 (x3 + (wrap64 ((wrap64 (wrap32 (((rd_T41 x7 x9).f1) - ((rd_T41 x7 x9).f0)))) + 1)))) x7 x8 (wrap64 (x9 + 1))) else (none)) else (none)) else (some x3)
def charset_Size.f (k : Nat) (l0 : List (S41)) : Option (Int) := (charset_made.f k l0).bind fun t367 => (charset_Size.l0 k 0 t367 (t367.length : Int) 0)
set_option maxHeartbeats 8000000 in
set_option maxRecDepth 100000 in
theorem charset_Size.calls (k : Nat) (A0 : Option Addr) (c0 : Nat) (l0 : List (S41)) (r : Int) (w : World) (hr0 : Kd.C k41 w A0 l0.length l0) (hc0 : l0.length ≤ c0) (h : charset_Size.f k l0 = some r) :
  Calls Try.prog 15 #[.slice A0 l0.length c0] w fun e w' => e = .returned (.int .i64 r) ∧ Below w.heap.size w w' := by
 have hu41 := Try.underlying41; have HR0 := aM hr0; have HC0 := aM hc0; clear hr0 hc0; have HB := aM (Below.refl w.heap.size w); have H : ((charset_made.f k l0).bind fun t367 => (charset_Size.l0 k 0 t367 (t367.length : Int) 0)) = some r := h; clear h; replace H := Option.bind_eq_some_iff.mp H; obtain ⟨t367, A20, H⟩ := H; replace H : (charset_Size.l0 k 0 t367 (t367.length : Int) 0) = some r := H; have A2 := aM A20; clear A20; have H' := aM H; clear H; go_enter Try.func15, Try.ntmps15
 go_wp2_with (first | ((with_reducible refine gate_callee (f := 36) rfl ?_); refine goesL_ (some 7) rfl rfl Try.func36 (by kernel_rfl) rfl #[.slice A0 l0.length c0] rfl mT ?_; (with_reducible refine (charset_made.calls k (fun k_ => k_ < w.heap.size) _ _ l0 t367 _ ?side1 A2.out).mono ?_); (case side1 => exact Kd.V_mk HC0.out (Kd.F_below (Kd.C_F k41_heap HR0.out) (hB_t HB.out))); rintro e w3 ⟨v368, rfl, ho0, hb⟩; refine ⟨_, rfl, ?_⟩; have n0_ := aM (Kd.V_lower (Kd.V_mono (ok' := fun k_ => True) ho0 (fun k_ hk_ => trivial)) (below_size (hB_t HB.out))); have n1_ := aM (below_step (hB_t HB.out) hb); clear HB; have HO369 := n0_; have HB := n1_; clear n0_ n1_; (try clear hb); (try clear hb2); (try clear hk); (try clear hi); (try clear ho0); obtain ⟨Ao4, co4, eo4⟩ := Kd.V_slice HO369.out; subst eo4))
 go_loopg [3, 9] k (fun kq v3 v9 w' => ∃ (x3_1 : Int) (x9_1 : Int), v3 = .int .i64 x3_1 ∧ v9 = .int .i64 x9_1 ∧ Aside0 (charset_Size.l0 kq x3_1 t367 (t367.length : Int) x9_1 = some r) ∧ Aside0 (kq ≤ k) ∧ Aside0 (Kd.V k41 41 w' w.heap.size (fun _ => True) (.slice Ao4 t367.length co4) t367) ∧ Aside0 (Below w.heap.size w w'))
 case atStart => exact ⟨(0), (0), rT, rT, H', ⟨Nat.le_refl _⟩, ⟨Kd.V_t HO369.out⟩, ⟨hB_t HB.out⟩⟩
 case round =>
  clear H'; (try clear c1); (try clear p2); (try clear c3); (try clear HK1); (try clear HO_7); (try clear HB); obtain ⟨x3_1, x9_1, rfl, rfl, HA, HK1, HO_7, HB⟩ := hrel
  cases gk with
  | zero => exact absurd HA.out (by simp [charset_Size.l0])
  | succ k1 =>
   have H := HA.out; clear HA; simp only [charset_Size.l0] at H
   by_cases c5 : x9_1 < (t367.length : Int)
   ·rw [if_pos c5] at H; have c5b0 : decide (x9_1 < (t367.length : Int)) = true := decide_eq_true c5; clear c5
    by_cases c6 : 0 ≤ x9_1
    ·rw [if_pos c6] at H; have c6b0 : decide (0 ≤ x9_1) = true := decide_eq_true c6; clear c6
     by_cases c7 : x9_1 < (t367.length : Int)
     ·rw [if_pos c7] at H; have c7b0 : decide (x9_1 < (t367.length : Int)) = true := decide_eq_true c7; clear c7; have H' := aM H; clear H; have p370 : 0 ≤ (x9_1 : Int) := dT; have q370 : x9_1 < (t367.length : Int) := dT; obtain ⟨ad370, e370, hx370_0, hx370_1⟩ := at_T41 (Kd.V_reads' HO_7.out).2.2 x9_1 p370 q370; cases e370
      replace p370 := eq_true p370; replace q370 := eq_true q370; go_wp2_with (first | ((with_reducible refine gate_dst (N := 5) rfl ?_); refine box_event ?hg (N := 5) ?hd (cs := #[.int .i32 0, .int .i32 0]) (t := 41) ?hr ?_; (case hd => rfl); (case hg => rfl); (case hr => first | (go_simp; done) | (go_simp; rfl)); intro gb371 hg w8 hbox hb; have n0_ := aM (Kd.V_below (Kd.V_elderB (Kd.V_t HO_7.out) gb371 (Nat.le_of_eq hg.symm)) hb); have n1_ := aM (below_step (hB_t HB.out) hb); have n2_ := aM (hbox); have n3_ := aM ((by rw [hg]; exact (below_size (hB_t HB.out)) : w.heap.size ≤ gb371)); have n4_ := aM ((by rw [hg]; exact (below_size (hB_t HB.out)) : w.heap.size ≤ gb371)); clear HO_7; clear HB; have HO_7 := n0_; have HB := n1_; have BK371 := n2_; have GW371 := n3_; have GE371 := n4_; clear n0_ n1_ n2_ n3_ n4_; clear hb hbox hg; have hcz9_0 : w8.cell? ⟨gb371, 0, none⟩ = some (.int .i32 0) := (blk_cell BK371.out 0).trans rfl; have hcz9_1 : w8.cell? ⟨gb371, 1, none⟩ = some (.int .i32 0) := (blk_cell BK371.out 1).trans rfl; have hfz9_0 := blk_frozen BK371.out 0; have hfz9_1 := blk_frozen BK371.out 1))
      go_roundg k1
      case measure => have := HK1.out; omega
      case rel => exact ⟨(wrap64 (x3_1 + (wrap64 ((wrap64 (wrap32 (((rd_T41 t367 x9_1).f1) - ((rd_T41 t367 x9_1).f0)))) + 1)))), (wrap64 (x9_1 + 1)), rT, rT, H', ⟨by have := HK1.out; omega⟩, ⟨Kd.V_t (Kd.V_mono (Kd.V_far (p := ⟨gb371, 1, none⟩) (Kd.V_far (p := ⟨gb371, 0, none⟩) (Kd.V_mono HO_7.out (fun k_ hk => (⟨hk, hk.2⟩ : _ ∧ k_ ≠ gb371))) (fun _ hk => hk.2) (.int .i32 ((rd_T41 t367 x9_1).f0))) (fun _ hk => hk.2) (.int .i32 ((rd_T41 t367 x9_1).f1))) (fun _ hk => trivial))⟩, ⟨by repeat (with_reducible first | exact HB.out | apply below_alloc | apply pw_below_drewN | apply below_drew1 | refine below_set ?_ GE371.out)⟩⟩
     ·rw [if_neg c7] at H; exact absurd H (by simp)
    ·rw [if_neg c6] at H; exact absurd H (by simp)
   ·rw [if_neg c5] at H; have c5b0 : decide (x9_1 < (t367.length : Int)) = false := decide_eq_false c5; clear c5; obtain rfl := Option.some.inj H; go_wp2
    go_ret
    exact ⟨rE, hB_t HB.out⟩

/-! ### arboristref03_Size: function 16 -/
def arboristref03_Size.l0 : Nat → Int → List (S41) → Int → Option (Int)
 | 0, _, _, _ => none
 | k + 1, x3, x4, x5 => if x5 < (x4.length : Int) then (if 0 ≤ x5 then (arboristref03_Size.l0 k (wrap64 (x3 + (wrap64 ((wrap64 (wrap32 (((rd_T41 x4 x5).f1) - ((rd_T41 x4 x5).f0)))) + 1)))) x4 (wrap64 (x5 + 1))) else (none)) else (some x3)
def arboristref03_Size.f (k : Nat) (l0 : List (S41)) : Option (Int) := (arboristref03_Of.f k l0).bind fun t372 => (arboristref03_Size.l0 k 0 t372 0)
set_option maxHeartbeats 8000000 in
set_option maxRecDepth 100000 in
theorem arboristref03_Size.calls (k : Nat) (A0 : Option Addr) (c0 : Nat) (l0 : List (S41)) (r : Int) (w : World) (hr0 : Kd.C k41 w A0 l0.length l0) (hc0 : l0.length ≤ c0) (h : arboristref03_Size.f k l0 = some r) :
  Calls Try.prog 16 #[.slice A0 l0.length c0] w fun e w' => e = .returned (.int .i64 r) ∧ Below w.heap.size w w' := by
 have HR0 := aM hr0; have HC0 := aM hc0; clear hr0 hc0; have HB := aM (Below.refl w.heap.size w); have H : ((arboristref03_Of.f k l0).bind fun t372 => (arboristref03_Size.l0 k 0 t372 0)) = some r := h; clear h; replace H := Option.bind_eq_some_iff.mp H; obtain ⟨t372, A20, H⟩ := H; replace H : (arboristref03_Size.l0 k 0 t372 0) = some r := H; have A2 := aM A20; clear A20; have H' := aM H; clear H; go_enter Try.func16, Try.ntmps16
 go_wp2_with (first | (go_at_call 12; (with_reducible refine (arboristref03_Of.calls k _ _ l0 t372 _ ?side1 ?side2 A2.out).mono ?_); (case side1 => exact Kd.C_t HR0.out); (case side2 => exact HC0.out); rintro e w3 ⟨v373, rfl, ho0, hb⟩; have n0_ := aM (Kd.R_lower ho0 (below_size (hB_t HB.out))); have n1_ := aM (below_step (hB_t HB.out) hb); clear HB; have HO374 := n0_; have HB := n1_; clear n0_ n1_; (try clear hb); (try clear hb2); (try clear hk); (try clear hi); (try clear ho0)))
 repeat (go_quiet (first | (go_at_call 12; (with_reducible refine (arboristref03_Of.calls k _ _ l0 t372 _ ?side1 ?side2 A2.out).mono ?_); (case side1 => exact Kd.C_t HR0.out); (case side2 => exact HC0.out); rintro e w3 ⟨v373, rfl, ho0, hb⟩; have n0_ := aM (Kd.R_lower ho0 (below_size (hB_t HB.out))); have n1_ := aM (below_step (hB_t HB.out) hb); clear HB; have HO374 := n0_; have HB := n1_; clear n0_ n1_; (try clear hb); (try clear hb2); (try clear hk); (try clear hi); (try clear ho0))); try go_wp2_with (first | (go_at_call 12; (with_reducible refine (arboristref03_Of.calls k _ _ l0 t372 _ ?side1 ?side2 A2.out).mono ?_); (case side1 => exact Kd.C_t HR0.out); (case side2 => exact HC0.out); rintro e w3 ⟨v373, rfl, ho0, hb⟩; have n0_ := aM (Kd.R_lower ho0 (below_size (hB_t HB.out))); have n1_ := aM (below_step (hB_t HB.out) hb); clear HB; have HO374 := n0_; have HB := n1_; clear n0_ n1_; (try clear hb); (try clear hb2); (try clear hk); (try clear hi); (try clear ho0))))
 go_loopg [3, 5] k (fun kq v3 v5 w' => ∃ (x3_1 : Int) (x5_1 : Int), v3 = .int .i64 x3_1 ∧ v5 = .int .i64 x5_1 ∧ Aside0 (arboristref03_Size.l0 kq x3_1 t372 x5_1 = some r) ∧ Aside0 (kq ≤ k) ∧ Aside0 (Kd.R k41 41 w' w.heap.size (fun _ => True) v373 t372) ∧ Aside0 (Below w.heap.size w w'))
 case atStart => exact ⟨(0), (0), rT, rT, H', ⟨Nat.le_refl _⟩, ⟨Kd.R_t HO374.out⟩, ⟨hB_t HB.out⟩⟩
 case round =>
  clear H'; (try clear c1); (try clear p2); (try clear HK1); (try clear HO_4); (try clear HB); obtain ⟨x3_1, x5_1, rfl, rfl, HA, HK1, HO_4, HB⟩ := hrel
  cases gk with
  | zero => exact absurd HA.out (by simp [arboristref03_Size.l0])
  | succ k1 =>
   have H := HA.out; clear HA; simp only [arboristref03_Size.l0] at H
   by_cases c4 : x5_1 < (t372.length : Int)
   ·rw [if_pos c4] at H; have c4b0 : decide (x5_1 < (t372.length : Int)) = true := decide_eq_true c4; clear c4
    by_cases c5 : 0 ≤ x5_1
    ·rw [if_pos c5] at H; have c5b0 : decide (0 ≤ x5_1) = true := decide_eq_true c5; clear c5; have H' := aM H; clear H; obtain ⟨Ao6, co6, eo6⟩ := Kd.R_slice HO_4.out; subst eo6; have p375 : 0 ≤ (x5_1 : Int) := dT; have q375 : x5_1 < (t372.length : Int) := dT; obtain ⟨ad375, e375, hx375_0, hx375_1⟩ := at_T41 (Kd.R_reads' HO_4.out).2.2 x5_1 p375 q375; cases e375
     replace p375 := eq_true p375; replace q375 := eq_true q375; have p376 : 0 ≤ (x5_1 : Int) := dT; have q376 : x5_1 < (t372.length : Int) := dT; obtain ⟨ad376, e376, hx376_0, hx376_1⟩ := at_T41 (Kd.R_reads' HO_4.out).2.2 x5_1 p376 q376; obtain rfl : ad375 = ad376 := (by injection e376); replace p376 := eq_true p376; replace q376 := eq_true q376; go_wp2
     repeat (go_quiet (fail); try go_wp2)
     go_roundg k1
     case measure => have := HK1.out; omega
     case rel => exact ⟨(wrap64 (x3_1 + (wrap64 ((wrap64 (wrap32 (((rd_T41 t372 x5_1).f1) - ((rd_T41 t372 x5_1).f0)))) + 1)))), (wrap64 (x5_1 + 1)), rT, rT, H', ⟨by have := HK1.out; omega⟩, ⟨Kd.R_t HO_4.out⟩, ⟨hB_t HB.out⟩⟩
    ·rw [if_neg c5] at H; exact absurd H (by simp)
   ·rw [if_neg c4] at H; have c4b0 : decide (x5_1 < (t372.length : Int)) = false := decide_eq_false c4; clear c4; obtain rfl := Option.some.inj H; obtain ⟨Ao7, co7, eo7⟩ := Kd.R_slice HO_4.out; subst eo7; go_wp2
    repeat (go_quiet (fail); try go_wp2)
    go_ret
    exact ⟨rE, hB_t HB.out⟩

/-! ### arboristlaw03_CharsetTells: function 4 -/
def arboristlaw03_CharsetTells.f (k : Nat) (l0 : List (S41)) (a1 : Int) : Option (Bool) := if (l0.length : Int) > 60 then ((arboristlaw03_knows.f k).bind fun t377 => (some t377)) else ((charset_Right.f k l0).bind fun t378 => ((arboristref03_Right.f k l0).bind fun t379 => (if (t378 == t379) = true then ((charset_Size.f k l0).bind fun t380 => ((arboristref03_Size.f k l0).bind fun t381 => (if t380 = t381 then ((charset_Has.f l0 a1).bind fun t382 => ((arboristref03_Has.f k l0 a1).bind fun t383 => (if (t382 == t383) = true then ((arboristlaw03_knows.f k).bind fun t384 => (some t384)) else (none)))) else (none)))) else (none))))
set_option maxHeartbeats 8000000 in
set_option maxRecDepth 100000 in
theorem arboristlaw03_CharsetTells.calls (k : Nat) (A0 : Option Addr) (c0 : Nat) (l0 : List (S41)) (a1 : Int) (r : Bool) (w : World) (hr0 : Kd.C k41 w A0 l0.length l0) (hc0 : l0.length ≤ c0) (h : arboristlaw03_CharsetTells.f k l0 a1 = some r) :
  Calls Try.prog 4 #[.slice A0 l0.length c0, .int .i32 a1] w fun e w' => e = .returned (.bool r) ∧ Below w.heap.size w w' := by
 have HR0 := aM hr0; have HC0 := aM hc0; clear hr0 hc0; have HB := aM (Below.refl w.heap.size w); have H : (if (l0.length : Int) > 60 then ((arboristlaw03_knows.f k).bind fun t377 => (some t377)) else ((charset_Right.f k l0).bind fun t378 => ((arboristref03_Right.f k l0).bind fun t379 => (if (t378 == t379) = true then ((charset_Size.f k l0).bind fun t380 => ((arboristref03_Size.f k l0).bind fun t381 => (if t380 = t381 then ((charset_Has.f l0 a1).bind fun t382 => ((arboristref03_Has.f k l0 a1).bind fun t383 => (if (t382 == t383) = true then ((arboristlaw03_knows.f k).bind fun t384 => (some t384)) else (none)))) else (none)))) else (none))))) = some r := h; clear h
 by_cases c3 : (l0.length : Int) > 60
 ·rw [if_pos c3] at H; have c3b0 : decide (60 < (l0.length : Int)) = true := decide_eq_true c3; have c3b1 : decide (60 < l0.length) = true := decide_eq_true (by omega); clear c3; replace H := Option.bind_eq_some_iff.mp H; obtain ⟨t377, A40, H⟩ := H; replace H : (some t377) = some r := H; have A4 := aM A40; clear A40; obtain rfl := Option.some.inj H; go_enter Try.func4, Try.ntmps4
  go_wp2_with (first | ((with_reducible refine gate_callee (f := 9) rfl ?_); refine goesL_ (some 8) rfl rfl Try.func9 (by kernel_rfl) rfl #[] rfl mT ?_; (with_reducible refine (arboristlaw03_knows.calls k  t377 _ A4.out).mono ?_); rintro e w5 ⟨rfl, hb⟩; refine ⟨_, rfl, ?_⟩; have n0_ := aM (below_step (hB_t HB.out) hb); clear HB; have HB := n0_; clear n0_; (try clear hb); (try clear hb2); (try clear hk); (try clear hi)))
  go_ret
  exact ⟨rE, hB_t HB.out⟩
 ·rw [if_neg c3] at H; have c3b0 : decide (60 < (l0.length : Int)) = false := decide_eq_false c3; have c3b1 : decide (60 < l0.length) = false := decide_eq_false (by omega); clear c3; replace H := Option.bind_eq_some_iff.mp H; obtain ⟨t378, A60, H⟩ := H; replace H : ((arboristref03_Right.f k l0).bind fun t379 => (if (t378 == t379) = true then ((charset_Size.f k l0).bind fun t380 => ((arboristref03_Size.f k l0).bind fun t381 => (if t380 = t381 then ((charset_Has.f l0 a1).bind fun t382 => ((arboristref03_Has.f k l0 a1).bind fun t383 => (if (t382 == t383) = true then ((arboristlaw03_knows.f k).bind fun t384 => (some t384)) else (none)))) else (none)))) else (none))) = some r := H; have A6 := aM A60; clear A60; replace H := Option.bind_eq_some_iff.mp H; obtain ⟨t379, A70, H⟩ := H; replace H : (if (t378 == t379) = true then ((charset_Size.f k l0).bind fun t380 => ((arboristref03_Size.f k l0).bind fun t381 => (if t380 = t381 then ((charset_Has.f l0 a1).bind fun t382 => ((arboristref03_Has.f k l0 a1).bind fun t383 => (if (t382 == t383) = true then ((arboristlaw03_knows.f k).bind fun t384 => (some t384)) else (none)))) else (none)))) else (none)) = some r := H; have A7 := aM A70; clear A70
  by_cases c8 : (t378 == t379) = true
  ·rw [if_pos c8] at H; have c8b0 : (t378 == t379) = true := c8; (try (have c8b1 : decide (t378 = t379) = true := by simpa using c8)); (try (have c8b2 : (t378 == t379) = true := by simpa using c8)); clear c8; replace H := Option.bind_eq_some_iff.mp H; obtain ⟨t380, A90, H⟩ := H; replace H : ((arboristref03_Size.f k l0).bind fun t381 => (if t380 = t381 then ((charset_Has.f l0 a1).bind fun t382 => ((arboristref03_Has.f k l0 a1).bind fun t383 => (if (t382 == t383) = true then ((arboristlaw03_knows.f k).bind fun t384 => (some t384)) else (none)))) else (none))) = some r := H; have A9 := aM A90; clear A90; replace H := Option.bind_eq_some_iff.mp H; obtain ⟨t381, A100, H⟩ := H; replace H : (if t380 = t381 then ((charset_Has.f l0 a1).bind fun t382 => ((arboristref03_Has.f k l0 a1).bind fun t383 => (if (t382 == t383) = true then ((arboristlaw03_knows.f k).bind fun t384 => (some t384)) else (none)))) else (none)) = some r := H; have A10 := aM A100; clear A100
   by_cases c11 : t380 = t381
   ·rw [if_pos c11] at H; have c11b0 : (t380 == t381) = true := beq_iff_eq.mpr c11; have c11b1 : (t380 != t381) = false := bne_eq_false_iff_eq.mpr c11; clear c11; replace H := Option.bind_eq_some_iff.mp H; obtain ⟨t382, A120, H⟩ := H; replace H : ((arboristref03_Has.f k l0 a1).bind fun t383 => (if (t382 == t383) = true then ((arboristlaw03_knows.f k).bind fun t384 => (some t384)) else (none))) = some r := H; have A12 := aM A120; clear A120; replace H := Option.bind_eq_some_iff.mp H; obtain ⟨t383, A130, H⟩ := H; replace H : (if (t382 == t383) = true then ((arboristlaw03_knows.f k).bind fun t384 => (some t384)) else (none)) = some r := H; have A13 := aM A130; clear A130
    by_cases c14 : (t382 == t383) = true
    ·rw [if_pos c14] at H; have c14b0 : (t382 == t383) = true := c14; (try (have c14b1 : decide (t382 = t383) = true := by simpa using c14)); (try (have c14b2 : (t382 == t383) = true := by simpa using c14)); clear c14; replace H := Option.bind_eq_some_iff.mp H; obtain ⟨t384, A150, H⟩ := H; replace H : (some t384) = some r := H; have A15 := aM A150; clear A150; obtain rfl := Option.some.inj H; go_enter Try.func4, Try.ntmps4
     go_wp2_with (first | ((with_reducible refine gate_callee (f := 13) rfl ?_); refine goesL_ (some 10) rfl rfl Try.func13 (by kernel_rfl) rfl #[.slice A0 l0.length c0] rfl mT ?_; (with_reducible refine (charset_Right.calls k _ _ l0 t378 _ ?side1 ?side2 A6.out).mono ?_); (case side1 => exact Kd.C_t HR0.out); (case side2 => exact HC0.out); rintro e w16 ⟨rfl, hb⟩; refine ⟨_, rfl, ?_⟩; have n0_ := aM (below_step (hB_t HB.out) hb); clear HB; have HB := n0_; clear n0_; (try clear hb); (try clear hb2); (try clear hk); (try clear hi)) | ((with_reducible refine gate_callee (f := 14) rfl ?_); refine goesL_ (some 12) rfl rfl Try.func14 (by kernel_rfl) rfl #[.slice A0 l0.length c0] rfl mT ?_; (with_reducible refine (arboristref03_Right.calls k _ _ l0 t379 _ ?side1 ?side2 A7.out).mono ?_); (case side1 => exact Kd.C_t (Kd.C_below HR0.out HB.out)); (case side2 => exact HC0.out); rintro e w' ⟨rfl, ⟨nd, rfl⟩⟩; refine ⟨_, rfl, ?_⟩) | (go_at_call 15; (with_reducible refine (charset_Size.calls k _ _ l0 t380 _ ?side1 ?side2 A9.out).mono ?_); (case side1 => exact Kd.C_below HR0.out (hB_t HB.out)); (case side2 => exact HC0.out); rintro e w17 ⟨rfl, hb⟩; have n0_ := aM (below_step (hB_t HB.out) hb); clear HB; have HB := n0_; clear n0_; (try clear hb); (try clear hb2); (try clear hk); (try clear hi)) | (go_at_call 16; (with_reducible refine (arboristref03_Size.calls k _ _ l0 t381 _ ?side1 ?side2 A10.out).mono ?_); (case side1 => exact Kd.C_t (Kd.C_below HR0.out HB.out)); (case side2 => exact HC0.out); rintro e w18 ⟨rfl, hb⟩; have n0_ := aM (below_step (hB_t HB.out) hb); clear HB; have HB := n0_; clear n0_; (try clear hb); (try clear hb2); (try clear hk); (try clear hi)) | (go_at_call 17; (with_reducible refine (charset_Has.calls _ _ l0 a1 t382 _ ?side1 ?side2 A12.out).mono ?_); (case side1 => exact Kd.C_t (Kd.C_below HR0.out HB.out)); (case side2 => exact HC0.out); rintro e w19 ⟨rfl, hb⟩; have n0_ := aM (below_step (hB_t HB.out) hb); clear HB; have HB := n0_; clear n0_; (try clear hb); (try clear hb2); (try clear hk); (try clear hi)) | (go_at_call 18; (with_reducible refine (arboristref03_Has.calls k _ _ l0 a1 t383 _ ?side1 ?side2 A13.out).mono ?_); (case side1 => exact Kd.C_t (Kd.C_below HR0.out HB.out)); (case side2 => exact HC0.out); rintro e w20 ⟨rfl, hb⟩; have n0_ := aM (below_step (hB_t HB.out) hb); clear HB; have HB := n0_; clear n0_; (try clear hb); (try clear hb2); (try clear hk); (try clear hi)) | (go_at_call 9; (with_reducible refine (arboristlaw03_knows.calls k  t384 _ A15.out).mono ?_); rintro e w21 ⟨rfl, hb⟩; have n0_ := aM (below_step (hB_t HB.out) hb); clear HB; have HB := n0_; clear n0_; (try clear hb); (try clear hb2); (try clear hk); (try clear hi)))
     go_ret
     exact ⟨rE, hB_t HB.out⟩
    ·rw [if_neg c14] at H; exact absurd H (by simp)
   ·rw [if_neg c11] at H; exact absurd H (by simp)
  ·rw [if_neg c8] at H; exact absurd H (by simp)

/-- THE ONE PURE STATEMENT of arboristlaw03_CharsetTells: yours. -/
def arboristlaw03_CharsetTells.Pure : Prop := ∀ (l0 : List (S41)) (a1 : Int), (l0.length * 8 ≤ 140737488351232 ∧ ∀ y ∈ l0, W41 y) → (Lit.int .i32 a1).wf = true → ∃ k, arboristlaw03_CharsetTells.f k l0 a1 = some true
theorem arboristlaw03_CharsetTells.walk (P : arboristlaw03_CharsetTells.Pure) (l0 : List (S41)) (a1 : Int) (A0 : Option Addr) (c0 : Nat) (w : World) (wf0 : (l0.length * 8 ≤ 140737488351232 ∧ ∀ y ∈ l0, W41 y)) (wf1 : (Lit.int .i32 a1).wf = true) (hr0 : Kd.C k41 w A0 l0.length l0) (hc0 : l0.length ≤ c0) :
  Calls Try.prog 4 #[.slice A0 l0.length c0, .int .i32 a1] w fun e w' => e = .returned (.bool true) ∧ Below w.heap.size w w' := by
 obtain ⟨k, h⟩ := P l0 a1 wf0 wf1; refine (arboristlaw03_CharsetTells.calls k A0 c0 l0 a1 true w hr0 hc0 h).mono ?_; rintro e w' ⟨rfl, hd⟩; exact ⟨rfl, hd⟩

end Go.Proofs.Ytomccgpachmpbaa.PA
