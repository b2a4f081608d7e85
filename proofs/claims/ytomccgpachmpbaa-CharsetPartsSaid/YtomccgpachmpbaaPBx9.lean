-- WRITTEN BY pp.py out of the translation; Lean checks it.
import Derived.Test.YtomccgpachmpbaaPBx0
import Derived.Test.YtomccgpachmpbaaPBx3
import Derived.Test.YtomccgpachmpbaaPBx7
import Derived.Test.YtomccgpachmpbaaPBx8
namespace Go.Proofs.Ytomccgpachmpbaa.PB
open Go.RowKit Go.Proofs.YtomccgpachmpbaaW.PrintWords Go.Proofs.YtomccgpachmpbaaW.PrintLast Go.Proofs.YtomccgpachmpbaaW.PrintMore
attribute [local go_sem] max2_int min2_int max_two min_two max_three min_three max_four min_four   -- for this text's walks alone
set_option linter.unusedVariables false
set_option linter.unusedSimpArgs false

/-! ### arboristref03_Parts: function 23 -/
/-! the reference's Parts, by hand: its rows, and what each of its writes leaves -/
/-- What stands throughout: the starts are read; the classes are rows apart from one another and from the rest's row. -/
structure RpS (w W : World) (va vo vs : Value) (t : List Int) (o : List (List S41)) (s : List S41) : Prop where
  at_ : Kd.R (Kd.int .i32) 21 W w.heap.size (fun _ => True) va t
  out : Kd.S (Kd.slice 41 k41) 24 W w.heap.size (fun k => some k ≠ vs.ownBlock) vo o
  rest : Kd.R k41 41 W w.heap.size (fun k => some k = vs.ownBlock) vs s
  below : Below w.heap.size w W
section
variable {w W W1 : World} {va vo vs : Value} {t : List Int} {o : List (List S41)} {s : List S41}
theorem RpS.step (h : RpS w W va vo vs t o s) (hb : Below W.heap.size W W1) : RpS w W1 va vo vs t o s :=
  ⟨Kd.R_below h.at_ hb, Kd.S_below h.out hb, Kd.R_below h.rest hb, below_step h.below hb⟩
theorem RpS.away (h : RpS w W va vo vs t o s) {e : Nat} (he : e ≠ 21) {k : Nat} (hk : ∃ cells, W.heap[k]? = some (.cells cells e (0, 0))) : some k ≠ va.ownBlock := by
  obtain ⟨cells, hc⟩ := hk
  exact Kd.R_ne h.at_ hc (Ne.symm he)
/-- The rest grew. -/
theorem RpS.rest_ (h : RpS w W va vo vs t o s) {v1 : Value} {s1 : List S41} (h1 : Kd.R k41 41 W1 w.heap.size (fun k => some k = vs.ownBlock ∨ W.heap.size ≤ k) v1 s1) (hb : Below w.heap.size w W1) (hk : Kept W W1 (fun k => some k = vs.ownBlock)) : RpS w W1 va vo v1 t o s1 := by
  refine ⟨?_, ?_, Kd.R_tight rfl h1, hb⟩
  · refine Kd.R_mono (Kd.R_kept (Kd.R_mono (Kd.R_apart' h.at_ (Kd.R_typed h.rest) (by decide)) (fun k hk => hk.2)) hk (fun k h1 h2 => h1 h2)) (fun _ _ => trivial)
  · refine Kd.S_mono (Kd.S_step (Kd.S_bound h.out) (fun k ho hlt => hk.2 k hlt ho.1)) (fun k ho he => ?_)
    rcases h1.1 k he.symm with h2 | h2
    · exact ho.1 h2
    · have := ho.2.2.1; omega
/-- A class came. -/
theorem RpS.class_ (h : RpS w W va vo vs t o s) {v1 : Value} {p : List S41} (h1 : Kd.S (Kd.slice 41 k41) 24 W1 w.heap.size (fun k => some k ≠ vs.ownBlock) v1 (o ++ [p])) (hb : Below w.heap.size w W1) (hg : W.grownBy W1 vo.ownBlock) : RpS w W1 va v1 vs t (o ++ [p]) s :=
  ⟨Kd.R_over' h.at_ (Kd.S_typed h.out) (by decide) hg, h1, Kd.R_over' h.rest (Kd.S_typed h.out) (by decide) hg, hb⟩
/-- A class grew: what its row is handed out as, and taken back. -/
theorem RpS.lend (h : RpS w W va vo vs t o s) (j : Int) (h0 : 0 ≤ j) (h1 : j < o.length) :
    ∃ (g cap : Nat) (v : Value) (oki : Nat → Prop), vo = .slice (some ⟨g, 0, none⟩) o.length cap ∧ Kd.R k41 41 W w.heap.size oki v (rd_L2 o j) ∧ W.cell? ⟨g, j.toNat, none⟩ = some v ∧
      ∀ (W1 : World) (v1 : Value) (s1 : List S41), Kd.R k41 41 W1 w.heap.size (fun k => oki k ∨ W.heap.size ≤ k) v1 s1 → Below w.heap.size w W1 → Kept W W1 oki →
        W1.cell? ⟨g, j.toNat, none⟩ = some v ∧ W1.frozen? ⟨g, j.toNat, none⟩ = false ∧ RpS w (W1.setCell ⟨g, j.toNat, none⟩ v1) va (.slice (some ⟨g, 0, none⟩) o.length cap) vs t (o.set j.toNat s1) s := by
  obtain ⟨g, cap, rfl, hg0, hg1, cur, hgc⟩ := Kd.S_form h.out (by omega)
  obtain ⟨oki0, c, _, hM, hcc, _, hoki0, hH⟩ := Kd.S_elem h.out [] j h0 h1
  obtain ⟨v, rfl, hR0⟩ := hM
  have hx := hcc 0 v rfl
  rw [show (Kd.slice 41 k41).sz = 1 from rfl, Nat.mul_one, Nat.add_zero] at hx
  obtain ⟨oki, hR, hle, hty41⟩ : ∃ oki : Nat → Prop, Kd.R k41 41 W w.heap.size oki v (rd_L2 o j) ∧ (∀ k, oki k → oki0 k) ∧ ∀ k, oki k → ∃ cells, W.heap[k]? = some (.cells cells 41 (0, 0)) :=
    ⟨_, Kd.R_bound hR0, fun k hk => hk.1, fun k hk => by
      obtain ⟨_, _, _, q, hq, cells, hc⟩ := hk
      obtain rfl : q = 41 := by simpa [show k41.E = [] from rfl] using hq
      exact ⟨cells, hc⟩⟩
  have hoki : ∀ k, oki k → some k ≠ vs.ownBlock ∧ k ≠ g := fun k hk => hoki0 k (hle k hk)
  refine ⟨g, cap, v, oki, rfl, hR, hx, fun W1 v1 s1 h1' hb hk => ?_⟩
  have hH1 := Kd.H_step (Kd.H_widen hH) (w1 := W1) (fun k _ hn hlt => hk.2 k hlt (fun h2 => hn (.inl (hle k h2))))
  obtain ⟨a1, a2⟩ := Kd.H_at hH1 h0 h1
  have b1 := a1 0 v rfl
  have b2 := a2 0
  rw [show (Kd.slice 41 k41).sz = 1 from rfl, Nat.mul_one, Nat.add_zero] at b1 b2
  have hok : ∀ k, (oki k ∨ W.heap.size ≤ k) → oki0 k ∨ some k ≠ vs.ownBlock ∧ W.heap.size ≤ k := fun k hk' => hk'.elim (fun h2 => .inl (hle k h2)) (fun h2 => .inr ⟨fun he => by have := Kd.R_lt h.rest k he.symm; omega, h2⟩)
  have hP := Kd.S_seg0 hH1 h0 h1 (seg := [v1]) (j := 0) (show 1 ≤ 1 from by decide) (x' := s1) (Kd.M_row h1') hok
  rw [show (Kd.slice 41 k41).sz = 1 from rfl, Nat.mul_one, Nat.add_zero] at hP
  have e : W1.setCells g j.toNat [v1] = W1.setCell ⟨g, j.toNat, none⟩ v1 := rfl
  rw [e] at hP
  have hg1' : ∃ cells, W1.heap[g]? = some (.cells cells 24 (0, 0)) := by
    refine ⟨cur, ?_⟩
    rw [hk.2 g hg1 (fun h2 => (hoki g h2).2 rfl)]
    exact hgc
  have hog : (Value.slice (some ⟨g, 0, none⟩) o.length cap).ownBlock = some g := by simp [Value.ownBlock]
  have hty : ∀ k, (Value.slice (some ⟨g, 0, none⟩) o.length cap).ownBlock = some k → ∃ cells, W1.heap[k]? = some (.cells cells 24 (0, 0)) := fun k hk' => by
    rw [hog] at hk'
    obtain rfl := Option.some.inj hk'
    exact hg1'
  have hgr' : W1.grownBy (W1.setCell ⟨g, j.toNat, none⟩ v1) (Value.slice (some ⟨g, 0, none⟩) o.length cap).ownBlock := by
    rw [hog]
    exact hP.2
  refine ⟨b1, b2, ?_, hP.1, ?_, ?_⟩
  · refine Kd.R_over' (Kd.R_mono (Kd.R_kept (Kd.R_bound h.at_) hk (fun k hk1 hk2 => ?_)) (fun _ _ => trivial)) hty (by decide) hgr'
    obtain ⟨_, _, _, q, hq, cells, hc⟩ := hk1
    obtain ⟨cells', hc'⟩ := hty41 k hk2
    rw [hc] at hc'
    injection hc' with hc'
    injection hc' with _ hc' _
    subst hc'
    revert hq
    decide
  · exact Kd.R_over' (Kd.R_kept h.rest hk (fun k he h2 => (hoki k h2).1 he)) hty (by decide) hgr'
  · exact hb.grown hP.2 hb.size (fun k hk => by injection hk with hk; omega)
end
theorem starts_at {W : World} {base : Nat} {ok : Nat → Prop} {A : Option Addr} {ca : Nat} {t : List Int} (h : Kd.R (Kd.int .i32) 21 W base ok (.slice A t.length ca) t) (hp : 0 < t.length) :
    ∃ g, A = some ⟨g, 0, none⟩ ∧ ∀ j : Nat, j < t.length → W.cell? ⟨g, j, none⟩ = some (.int .i32 (rd t (j : Int))) := by
  obtain ⟨g, cap, e, _⟩ := Kd.R_form h hp
  injection e with e1 _ _
  subst e1
  refine ⟨g, rfl, fun j hj => ?_⟩
  obtain ⟨ad, e2, hx⟩ := Kd.at_int (Kd.R_reads' h).2.2 (j : Int) (by omega) (by omega)
  obtain rfl := Option.some.inj e2
  rw [add_plain, Int.toNat_natCast] at hx
  exact hx
theorem S_nil_of {W : World} {base : Nat} {ok : Nat → Prop} {v : Value} (h : Kd.R (Kd.slice 41 k41) 24 W base ok v []) : Kd.S (Kd.slice 41 k41) 24 W base ok v [] := by
  obtain ⟨h0, inner, ho, hr⟩ := h
  exact ⟨fun _ => 0, h0, inner, ho, hr.1, fun j p hj => by simp at hj⟩
/-- The last rune of stretch i. -/
def arboristref03_Parts.hi (t : List Int) (i : Nat) : Int := if i + 1 < t.length then wrap32 (rd t ((i + 1 : Nat) : Int) - 1) else 1114111
/-- The last class alike, from class j on. -/
def arboristref03_Parts.l1 (l : List (List S41)) (o : List (List S41)) (lo : Int) : Nat → Nat → Int → Option Int
  | 0, _, _ => none
  | k + 1, j, r => if j < o.length then (if 0 < (rd_L2 o (j : Int)).length ∧ o.length < 1000000000 then (arboristref03_alike.f k l (rd_T41 (rd_L2 o (j : Int)) 0).f0 lo).bind fun c => arboristref03_Parts.l1 l o lo k (j + 1) (if c = true then (j : Int) else r) else none) else some r
def arboristref03_Parts.l0 (l : List (List S41)) (t : List Int) : Nat → List (List S41) → List S41 → Nat → Option (List (List S41))
  | 0, _, _, _ => none
  | k + 1, o, s, i => if i < t.length then
      (arboristref03_none.f k l (rd t (i : Int))).bind fun c => if c = true then (arboristref03_join.f s (rd t (i : Int)) (arboristref03_Parts.hi t i)).bind fun s' => arboristref03_Parts.l0 l t k o s' (i + 1)
        else (arboristref03_Parts.l1 l o (rd t (i : Int)) k 0 (-1)).bind fun j => if j < 0 then (if o.length < 1000000000 then arboristref03_Parts.l0 l t k (o ++ [[⟨rd t (i : Int), arboristref03_Parts.hi t i⟩]]) s (i + 1) else none)
          else if j < o.length then (arboristref03_join.f (rd_L2 o j) (rd t (i : Int)) (arboristref03_Parts.hi t i)).bind fun s' => arboristref03_Parts.l0 l t k (o.set j.toNat s') s (i + 1) else none
    else if o.length < 1000000000 then some (if 0 < s.length then o ++ [s] else o) else none
def arboristref03_Parts.f (k : Nat) (l0 : List (List S41)) : Option (List (List S41)) := (arboristref03_ends.f k l0).bind fun t => if t.length < 1000000000 then arboristref03_Parts.l0 l0 t k [] [] 0 else none
set_option maxHeartbeats 4000000 in
set_option maxRecDepth 100000 in
theorem arboristref03_Parts.calls (k : Nat) (A0 : Option Addr) (c0 : Nat) (l0 : List (List (S41))) (r : List (List (S41))) (w : World) (hr0 : Kd.C (Kd.slice 41 k41) w A0 l0.length l0) (hc0 : l0.length ≤ c0) (h : arboristref03_Parts.f k l0 = some r) :
  Calls Try.prog 23 #[.slice A0 l0.length c0] w fun e w' => ∃ v0_ : Value, e = .returned (v0_) ∧ Kd.R (Kd.slice 41 k41) 24 w' w.heap.size (fun _ => True) v0_ r ∧ Below w.heap.size w w' := by
  unfold arboristref03_Parts.f at h
  obtain ⟨t, ht, h⟩ := Option.bind_eq_some_iff.mp h
  split at h
  case isFalse => cases h
  rename_i htl
  have q := arboristref03_ends.calls k A0 c0 l0 t w hr0 hc0 ht
  have HC : Hid (∀ W, Below w.heap.size w W → Kd.C (Kd.slice 41 k41) W A0 l0.length l0) := fun W hb => Kd.C_below hr0 hb
  replace h : Hid (arboristref03_Parts.l0 l0 t k [] [] 0 = some r) := h
  replace hc0 : Hid (l0.length ≤ c0) := hc0
  clear hr0 ht
  go_enter Try.func23, Try.ntmps23
  go_upto_region 1 with fail
  go_cut [3] from 10 (fun s3 wx => Kd.R (Kd.int .i32) 21 wx w.heap.size (fun _ => True) s3 t ∧ Below w.heap.size w wx)
  case first =>
    go_wp2_with (go_at_call 45; refine q.mono ?_; rintro e w1 ⟨va, rfl, HA, HB⟩; replace HA : Hid _ := HA; replace HB : Hid _ := HB)
    go_meet
    exact ⟨HA.out, HB.out⟩
  case rest =>
    clear q
    obtain ⟨HA, HB⟩ := hcut
    obtain ⟨Aa, ca, rfl⟩ := Kd.R_slice HA
    replace HA : Hid (Kd.R (Kd.int .i32) 21 wc w.heap.size (fun _ => True) (.slice Aa t.length ca) t) := HA
    replace HB : Hid (Below w.heap.size w wc) := HB
    go_upto_region 2 with fail
    go_cut [4] from 10 (fun s4 wx => Kd.R (Kd.int .i32) 21 wx w.heap.size (fun _ => True) (.slice Aa t.length ca) t ∧ Kd.R (Kd.slice 41 k41) 24 wx w.heap.size (fun _ => True) s4 [] ∧ Below w.heap.size w wx)
    case first =>
      go_wp2_with ((with_reducible refine gate_dst (N := 12) rfl ?_); refine Kd.R_lit (Kd.slice 41 k41) _ 24 ?hg (N := 12) ?hd (xs := ([] : List (List S41))) (inner := []) (ok := fun _ => True) (okp := fun _ => True) ?hr ?hp (fun _ hk => hk) trivial (Below.refl _ _) (Nat.le_refl _) (by simp) ?_; (case hd => rfl); (case hg => rfl); (case hr => first | (go_simp; done) | (go_simp; rfl)); (case hp => exact (Reps.none _ _)); intro v1 w1 h1 hb hg_ hnew_; clear hg_ hnew_; replace h1 : Hid _ := h1; replace hb : Hid _ := hb)
      go_meet
      exact ⟨Kd.R_below HA.out hb.out, Kd.R_lower h1.out HB.out.size, below_step HB.out hb.out⟩
    case rest =>
      clear HA HB
      obtain ⟨HA, HO, HB⟩ := hcut
      replace HA : Hid (Kd.R (Kd.int .i32) 21 wc w.heap.size (fun _ => True) (.slice Aa t.length ca) t) := HA
      replace HO : Hid (Kd.R (Kd.slice 41 k41) 24 wc w.heap.size (fun _ => True) u4 []) := HO
      replace HB : Hid (Below w.heap.size w wc) := HB
      go_upto_region 3 with fail
      go_cut [5] from 10 (fun s5 wx => RpS w wx (.slice Aa t.length ca) u4 s5 t [] [])
      case first =>
        go_wp2_with ((with_reducible refine gate_dst (N := 13) rfl ?_); refine Kd.R_lit k41 _ 41 ?hg (N := 13) ?hd (xs := ([] : List S41)) (inner := []) (ok := fun _ => True) (okp := fun _ => True) ?hr ?hp (fun _ hk => hk) trivial (Below.refl _ _) (Nat.le_refl _) (by simp) ?_; (case hd => rfl); (case hg => rfl); (case hr => first | (go_simp; done) | (go_simp; rfl)); (case hp => exact (Reps.none _ _)); intro v1 w1 h1 hb hg_ hnew_; clear hg_ hnew_; replace h1 : Hid _ := h1; replace hb : Hid _ := hb)
        go_meet
        refine ⟨Kd.R_below HA.out hb.out, Kd.S_mono (Kd.S_below (Kd.S_bound (S_nil_of HO.out)) hb.out) (fun k hk he => ?_), Kd.R_tight rfl (Kd.R_lower h1.out HB.out.size), below_step HB.out hb.out⟩
        have := Kd.R_base h1.out k he.symm
        have := hk.2.2.1
        omega
      case rest =>
        clear HA HO HB
        replace hcut : Hid (RpS w wc (.slice Aa t.length ca) u4 u5 t [] []) := hcut
        go_wp2
        go_loopg [4, 5, 6] k (fun kq s4 s5 s6 wr => ∃ (o : List (List S41)) (s : List S41) (i : Nat), s6 = .int .i64 (i : Int) ∧ arboristref03_Parts.l0 l0 t kq o s i = some r ∧ RpS w wr (.slice Aa t.length ca) s4 s5 t o s)
        case atStart => exact ⟨[], [], 0, rfl, h.out, hcut.out⟩
        case round =>
          clear hcut h
          obtain ⟨o, s, i, rfl, hf, H⟩ := hrel
          replace H : Hid (RpS w wr (.slice Aa t.length ca) u4 u5 t o s) := H
          cases gk with
          | zero => cases hf
          | succ k' =>
            simp only [arboristref03_Parts.l0] at hf
            by_cases hi : i < t.length
            · rw [if_pos hi] at hf
              obtain ⟨lo, hlo⟩ : ∃ x, x = rd t (i : Int) := ⟨_, rfl⟩
              obtain ⟨hv, hhv⟩ : ∃ x, x = arboristref03_Parts.hi t i := ⟨_, rfl⟩
              obtain ⟨g, rfl, hcell⟩ := starts_at H.out.at_ (by omega)
              have hx := hcell i hi
              rw [← hlo] at hf hx
              rw [← hhv] at hf
              obtain ⟨c, hcf, hf⟩ := Option.bind_eq_some_iff.mp hf
              replace hf : Hid _ := hf
              replace hcell : Hid _ := hcell
              replace hhv : Hid (hv = arboristref03_Parts.hi t i) := hhv
              clear hlo
              go_upto_if 24 with fail
              go_cut [7] from 20 to 88 (fun s7 wx => s7 = .int .i32 hv ∧ wx = wr)
              case first =>
                by_cases h2 : i + 1 < t.length
                · have h2z : (i : Int) + 1 < (t.length : Int) := by omega
                  have hx2 := hcell.out (i + 1) h2
                  have hh : hv = wrap32 (rd t ((i + 1 : Nat) : Int) - 1) := by rw [hhv.out, arboristref03_Parts.hi, if_pos h2]
                  generalize rd t ((i + 1 : Nat) : Int) = nxt at hh hx2
                  replace hh : Hid (hv = wrap32 (nxt - 1)) := hh
                  go_wp2_with fail
                  go_meet
                  exact ⟨by rw [hh.out], rfl⟩
                · have h2z : ¬ (i : Int) + 1 < (t.length : Int) := by omega
                  go_wp2_with fail
                  go_meet
                  exact ⟨by rw [hhv.out, arboristref03_Parts.hi, if_neg h2], rfl⟩
              case rest =>
                obtain ⟨rfl, rfl⟩ := hcut
                have hV : Kd.V (Kd.slice 41 k41) 24 wc wc.heap.size (fun k_ => k_ < wc.heap.size) (.slice A0 l0.length c0) l0 := Kd.V_mk hc0.out (Kd.C_F (Kd.heap_slice 41 k41_heap) (HC.out wc H.out.below))
                have q := arboristref03_none.calls k' (fun k_ => k_ < wc.heap.size) A0 c0 l0 lo c wc hV hcf
                clear hV
                go_upto_region 10 with fail
                go_cut [36] from 20 to 88 (fun s36 wx => s36 = .bool c ∧ RpS w wx (.slice (some ⟨g, 0, none⟩) t.length ca) u4 u5 t o s ∧ wx.cell? ⟨g, i, none⟩ = some (.int .i32 lo))
                case first =>
                  go_wp2_with (go_at_call 46; refine q.mono ?_; rintro e w1 ⟨rfl, hb⟩; replace hb : Hid _ := hb)
                  go_meet
                  exact ⟨rfl, H.out.step hb.out, (hb.out.cell (World.block_lt_of_cell? _ _ hx)).trans hx⟩
                case rest =>
                  clear q H hx
                  obtain ⟨rfl, H, hx⟩ := hcut
                  replace H : Hid (RpS w wc (.slice (some ⟨g, 0, none⟩) t.length ca) u4 u5 t o s) := H
                  cases c
                  · replace hf := hf.out
                    rw [if_neg (by decide)] at hf
                    obtain ⟨res, hl1, hf⟩ := Option.bind_eq_some_iff.mp hf
                    replace hf : Hid _ := hf
                    replace hl1 : Hid (arboristref03_Parts.l1 l0 o lo k' 0 (-1) = some res) := hl1
                    go_upto_block 2 with fail
                    go_cut [8] from 20 to 88 (fun s8 wx => s8 = .int .i64 res ∧ RpS w wx (.slice (some ⟨g, 0, none⟩) t.length ca) u4 u5 t o s ∧ wx.cell? ⟨g, i, none⟩ = some (.int .i32 lo))
                    case first =>
                      obtain ⟨Ao, co, rfl⟩ := Kd.S_slice H.out.out
                      go_wp2
                      go_loopg [8, 9] k' (fun kq s8 s9 wx => ∃ (j : Nat) (rr : Int), s8 = .int .i64 rr ∧ s9 = .int .i64 (j : Int) ∧ arboristref03_Parts.l1 l0 o lo kq j rr = some res ∧ RpS w wx (.slice (some ⟨g, 0, none⟩) t.length ca) (.slice Ao o.length co) u5 t o s ∧ wx.cell? ⟨g, i, none⟩ = some (.int .i32 lo))
                      case atStart => exact ⟨0, -1, rfl, rfl, hl1.out, H.out, hx⟩
                      case round =>
                        clear hl1 H hx
                        obtain ⟨j, rr, rfl, rfl, hl, H, hx⟩ := hrel
                        replace H : Hid (RpS w wr (.slice (some ⟨g, 0, none⟩) t.length ca) (.slice Ao o.length co) u5 t o s) := H
                        cases gk with
                        | zero => cases hl
                        | succ k2 =>
                          simp only [arboristref03_Parts.l1] at hl
                          by_cases hj : j < o.length
                          · rw [if_pos hj] at hl
                            split at hl
                            case isFalse => cases hl
                            rename_i hp
                            obtain ⟨hp, hol⟩ := hp
                            obtain ⟨c, hcf, hl⟩ := Option.bind_eq_some_iff.mp hl
                            replace hl : Hid _ := hl
                            obtain ⟨go, cap, v, oki, e1, hR, hy, _⟩ := H.out.lend (j : Int) (by omega) (by omega)
                            injection e1 with e1 _ e3
                            subst e1
                            subst e3
                            rw [Int.toNat_natCast] at hy
                            obtain ⟨ge, ce, rfl, _⟩ := Kd.R_form hR hp
                            obtain ⟨ad1, e2, hz, _⟩ := at_T41 (Kd.R_reads' hR).2.2 0 (Int.le_refl _) (by omega)
                            obtain rfl := Option.some.inj e2
                            obtain ⟨xlo, hxlo⟩ : ∃ x, x = (rd_T41 (rd_L2 o (j : Int)) 0).f0 := ⟨_, rfl⟩
                            rw [← hxlo] at hz hcf
                            replace hz : wr.cell? ⟨ge, 0, none⟩ = some (.int .i32 xlo) := hz
                            have q := fun W (hb : Below w.heap.size w W) => arboristref03_alike.calls k2 A0 c0 l0 xlo lo c W (HC.out W hb) hc0.out hcf
                            replace q : Hid _ := q
                            obtain ⟨ln, hln⟩ : ∃ n, n = (rd_L2 o (j : Int)).length := ⟨_, rfl⟩
                            rw [← hln] at hy hp
                            clear hcf hR hxlo hln
                            go_upto_region 16 with fail
                            have fin : ∀ w1, Below wr.heap.size wr.drew w1 → RpS w w1 (.slice (some ⟨g, 0, none⟩) t.length ca) (.slice (some ⟨go, 0, none⟩) o.length co) u5 t o s ∧ w1.cell? ⟨g, i, none⟩ = some (.int .i32 lo) := fun w1 hb =>
                              ⟨(H.out.step (below_drew1 (Below.refl _ _))).step hb, (Below.cell hb (World.block_lt_of_cell? wr _ hx)).trans hx⟩
                            replace fin : Hid _ := fin
                            go_region_with (go_at_call 48; refine (q.out _ ?_).mono ?_; exact below_drew1 H.out.below; rintro e w1 ⟨rfl, hb⟩; replace hb : Hid _ := hb)
                            all_goals cases c
                            all_goals go_wp2
                            all_goals go_roundg k2
                            all_goals first | omega | exact ⟨j + 1, rr, rfl, by go_num, hl.out, (fin.out _ hb.out).1, (fin.out _ hb.out).2⟩ | exact ⟨j + 1, (j : Int), rfl, by go_num, hl.out, (fin.out _ hb.out).1, (fin.out _ hb.out).2⟩
                          · rw [if_neg hj] at hl
                            obtain rfl := Option.some.inj hl
                            go_wp2
                            go_meet
                            exact ⟨rfl, H.out, hx⟩
                    case rest =>
                      clear H hx hl1
                      obtain ⟨rfl, H, hx⟩ := hcut
                      replace H : Hid (RpS w wc (.slice (some ⟨g, 0, none⟩) t.length ca) u4 u5 t o s) := H
                      replace hf := hf.out
                      by_cases hr : res < 0
                      · rw [if_pos hr] at hf
                        split at hf
                        case isFalse => cases hf
                        rename_i hol
                        replace hf : Hid _ := hf
                        have hlt4 := Kd.S_lt H.out.out
                        have hlt5 := Kd.R_lt H.out.rest
                        replace hlt4 : Hid _ := hlt4
                        replace hlt5 : Hid _ := hlt5
                        go_wp2_with (first
                          | ((with_reducible refine gate_dst (N := 73) rfl ?_); refine Kd.R_lit k41 _ 41 ?hg (N := 73) ?hd (xs := ([⟨lo, hv⟩] : List S41)) (inner := [.int .i32 lo, .int .i32 hv]) (ok := fun _ => True) (okp := fun _ => True) ?hr ?hp (fun _ hk => hk) trivial (Below.refl _ _) (Nat.le_refl _) (by simp) ?_; (case hd => rfl); (case hg => rfl); (case hr => first | (go_simp; done) | (go_simp; rfl)); (case hp => exact Reps.c2 (k41_mkM _ _ _ (⟨lo, hv⟩ : S41)) (Reps.none _ _)); intro v1 w1 h1 hb hg_ hnew_; clear hg_ hnew_; obtain ⟨A9, c9, e9⟩ := Kd.R_slice h1; subst e9; replace h1 : Hid _ := h1; replace hb : Hid _ := hb)
                          | ((with_reducible refine gate_builtin (b := .append) (xs := #[.tmp 66, .tmp 74]) rfl ?_); at_builtin; refine Kd.S_append (Kd.slice 41 k41) (w0 := w) w.heap.size rfl (.tmp 66) (.tmp 74) 31 24 (.slice none 0 0) 24 rfl Try.underlying31 info24 rfl (by decide) (by omega) u4 o [⟨lo, hv⟩] [.slice A9 ([⟨lo, hv⟩] : List S41).length c9] (fun k => some k ≠ u5.ownBlock) (fun k => some k = (.slice A9 ([⟨lo, hv⟩] : List S41).length c9 : Value).ownBlock) rfl rfl ?aP ?aK ?aF ?aO ?aB ?aS ?aL ?_; (case aP => exact Kd.M_row (Kd.R_tight rfl (Kd.R_lower h1.out H.out.below.size))); (case aK => exact fun k hk => ⟨fun he => by have := Kd.R_base h1.out k hk.symm; have := hlt5.out k he.symm; omega, fun he => by have := Kd.R_base h1.out k hk.symm; have := hlt4.out k he.symm; omega⟩); (case aF => exact fun k hk he => by have := hb.out.size; have := hlt5.out k he.symm; omega); (case aO => exact Kd.S_mono (Kd.S_below (Kd.S_bound H.out.out) hb.out) (fun k hk => ⟨hk.1, fun he => by have := Kd.R_base h1.out k he.symm; have := hk.2.2.1; omega⟩)); (case aB => exact below_step H.out.below hb.out); (case aS => exact (below_step H.out.below hb.out).size); (case aL => omega); intro v2 w2 ho hb2 hg2 hat2; have HN := (H.out.step hb.out).class_ ho hb2 hg2; replace HN : Hid _ := HN; clear ho hb2 hg2 hat2))
                        go_roundg k'
                        case measure => omega
                        case rel => exact ⟨o ++ [[⟨lo, hv⟩]], s, i + 1, by go_num, hf.out, HN.out⟩
                      · rw [if_neg hr] at hf
                        split at hf
                        case isFalse => cases hf
                        rename_i hrl
                        obtain ⟨s', hj, hf⟩ := Option.bind_eq_some_iff.mp hf
                        replace hf : Hid _ := hf
                        have HD := H.out.step (below_drew1 (Below.refl wc.heap.size wc))
                        obtain ⟨go, cap, v, oki, rfl, hR, hy, take⟩ := HD.lend res (by omega) hrl
                        have q := arboristref03_join.calls oki v (rd_L2 o res) lo hv s' w wc.drew HD.below hR hj
                        obtain ⟨m, rfl⟩ : ∃ m : Nat, res = m := ⟨res.toNat, by omega⟩
                        rw [Int.toNat_natCast] at hy take hf
                        obtain ⟨Av, cv, rfl⟩ := Kd.R_slice hR
                        obtain ⟨ln, hln⟩ : ∃ n, n = (rd_L2 o (m : Int)).length := ⟨_, rfl⟩
                        rw [← hln] at hy take q
                        replace hy : wc.cell? ⟨go, m, none⟩ = some (.slice Av ln cv) := hy
                        replace take : Hid _ := take
                        clear HD hR hj hln
                        go_upto_region 20 with fail
                        go_region_with (go_at_call 47; refine q.mono ?_; rintro e w1 ⟨v1, rfl, h1, hb, hk⟩; obtain ⟨A9, c9, e9⟩ := Kd.R_slice h1; subst e9; obtain ⟨hx1, hf1, HN⟩ := take.out w1 _ s' h1 hb hk; replace HN : Hid _ := HN; clear h1 hb hk)
                        all_goals go_wp2
                        all_goals go_roundg k'
                        all_goals first | omega | exact ⟨o.set m s', s, i + 1, by go_num, hf.out, HN.out⟩
                  · replace hf := hf.out
                    rw [if_pos rfl] at hf
                    obtain ⟨s', hj, hf⟩ := Option.bind_eq_some_iff.mp hf
                    replace hf : Hid _ := hf
                    have q := arboristref03_join.calls (fun k => some k = u5.ownBlock) u5 s lo hv s' w wc H.out.below H.out.rest hj
                    go_wp2_with (go_at_call 47; refine q.mono ?_; rintro e w1 ⟨v1, rfl, h1, hb, hk⟩; replace h1 : Hid _ := h1; replace hb : Hid _ := hb; replace hk : Hid _ := hk)
                    go_roundg k'
                    case measure => omega
                    case rel => exact ⟨o, s', i + 1, by go_num, hf.out, H.out.rest_ h1.out hb.out hk.out⟩
            · rw [if_neg hi] at hf
              split at hf
              case isFalse => cases hf
              rename_i hol
              obtain rfl := Option.some.inj hf
              obtain ⟨A5, c5, rfl⟩ := Kd.R_slice H.out.rest
              by_cases hs : 0 < s.length
              · have hsz : (s.length : Int) > 0 := by omega
                go_wp2_with ((with_reducible refine gate_builtin (b := .append) (xs := #[.tmp 92, .tmp 94]) rfl ?_); at_builtin; refine Kd.S_append (Kd.slice 41 k41) (w0 := w) w.heap.size rfl (.tmp 92) (.tmp 94) 31 24 (.slice none 0 0) 24 rfl Try.underlying31 info24 rfl (by decide) (by omega) u4 o s [.slice A5 s.length c5] (fun _ => True) (fun k => some k = (.slice A5 s.length c5 : Value).ownBlock) rfl rfl ?aP ?aK ?aF ?aO ?aB ?aS ?aL ?_; (case aP => exact Kd.M_row H.out.rest); (case aK => exact fun k hk => ⟨trivial, by obtain ⟨cells, hc⟩ := Kd.R_typed H.out.rest k hk.symm; exact Kd.S_ne H.out.out hc (by decide)⟩); (case aF => exact fun _ _ => trivial); (case aO => exact Kd.S_mono H.out.out (fun k hk => ⟨trivial, hk⟩)); (case aB => exact H.out.below); (case aS => exact H.out.below.size); (case aL => omega); intro v2 w2 ho hb2 hg2 hat2; clear hg2 hat2; replace ho : Hid _ := ho; replace hb2 : Hid _ := hb2)
                go_ret
                (try rw [if_pos hs])
                exact ⟨_, rfl, Kd.S_R ho.out, hb2.out⟩
              · have hsz : ¬ (s.length : Int) > 0 := by omega
                go_wp2
                go_ret
                (try rw [if_neg hs])
                exact ⟨_, rfl, Kd.R_mono (Kd.S_R H.out.out) (fun _ _ => trivial), H.out.below⟩


/-! ### api_Range_58: function 58 -/
def api_Range_58.f (a1 : Int) : Option (List S41) := if 0 ≤ a1 then (if a1 ≤ 17592186044416 then some [] else none) else none
/-- slices.Grow of nil: an empty row, nil or the call's own. -/
theorem api_Range_58.calls (a1 : Int) (r : List S41) (w : World) (h : api_Range_58.f a1 = some r) :
    Calls Try.prog 58 #[.slice none 0 0, .int .i64 a1] w fun e w' => ∃ v0_ : Value, e = .returned (v0_) ∧ Kd.R k41 41 w' w.heap.size (fun _ => True) v0_ r ∧ Below w.heap.size w w' := by
  unfold api_Range_58.f at h
  split at h
  case isFalse => cases h
  split at h
  case isFalse => cases h
  rename_i h0 h1
  obtain rfl := Option.some.inj h
  obtain ⟨n, rfl⟩ : ∃ n : Nat, a1 = n := ⟨a1.toNat, by omega⟩
  by_cases hn : n = 0
  · subst hn
    refine Calls.mono (Go.Proofs.Any8.slices_Grow_room Try.growRg none 0 0 0 w (Nat.le_refl _) (by omega) (by omega) (by omega)) ?_
    rintro e w' ⟨rfl, rfl⟩
    exact ⟨_, rfl, Kd.R_nil _ _ _ _ _, Below.refl _ _⟩
  · obtain ⟨i0, hi, hz0, hz1, hz2⟩ := info_parts info41
    refine Calls.mono (Go.Proofs.Any8.slices_Grow_grow Try.growRg i0 _ hi hz0 (by rw [hz1]; decide) none 0 0 n [] w (Nat.le_refl _) (by omega) (by rw [hz2]; omega) (by omega) (by simp) (fun _ => rfl) (fun a ha => by cases ha)) ?_
    rintro e w' ⟨rfl, rfl⟩
    have hge := grownCap_ge w (0 + n) 0 41
    have hle := grownCap_le_maxLen w (0 + n) 0 41 (by unfold maxLen; omega)
    refine ⟨_, rfl, ⟨fun _ _ => trivial, [], ⟨by simp, .inr ⟨w.heap.size, _, _, rfl, Nat.le_refl _, by simp [World.alloc, World.drew, -World.alloc_eq, -World.drew_eq]; exact ⟨rfl, rfl⟩, Nat.zero_le _, hle, ?_, by simp⟩⟩, Reps.none _ _⟩, below_alloc (below_drew (Below.refl _ _)) _⟩
    simp only [Array.size_append, size_zeroCells]
    rw [Nat.zero_add] at hge ⊢
    show n * 2 + (grownCap w n 0 41 - n) * 2 = grownCap w n 0 41 * 2
    omega


/-! ### api_Range_49: function 49 -/
mutual
def api_Range_49.l0 : Nat → List (List (S41)) → Int → List (List (S41)) → Int → Int → Option ((List (S41)))
 | 0, _, _, _, _, _ => none
 | k + 1, x0, x3, x9, x10, x11 => if x11 < x10 then (if 0 ≤ x11 then (if x11 < (x9.length : Int) then (if (wrap64 (x3 + ((rd_L2 x9 x11).length : Int))) < 0 then (none) else (api_Range_49.l0 k x0 (wrap64 (x3 + ((rd_L2 x9 x11).length : Int))) x9 x10 (wrap64 (x11 + 1)))) else (none)) else (none)) else ((api_Range_58.f x3).bind fun t321 => (api_Range_49.l1 k t321 x0 (x0.length : Int) 0))
def api_Range_49.l1 : Nat → List (S41) → List (List (S41)) → Int → Int → Option ((List (S41)))
 | 0, _, _, _, _ => none
 | k + 1, x6, x25, x26, x27 => if x27 < x26 then (if 0 ≤ x27 then (if x27 < (x25.length : Int) then (if x6.length + (rd_L2 x25 x27).length < 17592186044416 then (api_Range_49.l1 k (x6 ++ (rd_L2 x25 x27)) x25 x26 (wrap64 (x27 + 1))) else (none)) else (none)) else (none)) else (some x6)
end
def api_Range_49.f (k : Nat) (l0 : List (List (S41))) : Option ((List (S41))) := api_Range_49.l0 k l0 0 l0 (l0.length : Int) 0
set_option maxHeartbeats 8000000 in
set_option maxRecDepth 100000 in
theorem api_Range_49.calls (k : Nat) (A0 : Option Addr) (c0 : Nat) (l0 : List (List (S41))) (r : List (S41)) (w : World) (hr0 : Kd.C (Kd.slice 41 k41) w A0 l0.length l0) (hc0 : l0.length ≤ c0) (h : api_Range_49.f k l0 = some r) :
  Calls Try.prog 49 #[.slice A0 l0.length c0] w fun e w' => ∃ v0_ : Value, e = .returned (v0_) ∧ Kd.R k41 41 w' w.heap.size (fun _ => True) v0_ r ∧ Below w.heap.size w w' := by
 have HR0 := aM hr0; have HC0 := aM hc0; clear hr0 hc0; have HB := aM (Below.refl w.heap.size w); have H : (api_Range_49.l0 k l0 0 l0 (l0.length : Int) 0) = some r := h; clear h; have H' := aM H; clear H; go_enter Try.func49, Try.ntmps49
 go_wp2
 go_loopg [3, 11] k (fun kq v3 v11 w' => ∃ (x3_1 : Int) (x11_1 : Int), v3 = .int .i64 x3_1 ∧ v11 = .int .i64 x11_1 ∧ Aside0 (api_Range_49.l0 kq l0 x3_1 l0 (l0.length : Int) x11_1 = some r) ∧ Aside0 (kq ≤ k) ∧ Aside0 (Below w.heap.size w w'))
 case atStart => exact ⟨(0), (0), rT, rT, H', ⟨Nat.le_refl _⟩, ⟨hB_t HB.out⟩⟩
 case round =>
  clear H'; (try clear HK1); (try clear HB); obtain ⟨x3_1, x11_1, rfl, rfl, HA, HK1, HB⟩ := hrel
  cases gk with
  | zero => exact absurd HA.out (by simp [api_Range_49.l0])
  | succ k1 =>
   have H := HA.out; clear HA; simp only [api_Range_49.l0] at H
   by_cases c2 : x11_1 < (l0.length : Int)
   ·rw [if_pos c2] at H; have c2b0 : decide (x11_1 < (l0.length : Int)) = true := decide_eq_true c2; clear c2
    by_cases c3 : 0 ≤ x11_1
    ·rw [if_pos c3] at H; have c3b0 : decide (0 ≤ x11_1) = true := decide_eq_true c3; clear c3
     by_cases c4 : x11_1 < (l0.length : Int)
     ·rw [if_pos c4] at H; have c4b0 : decide (x11_1 < (l0.length : Int)) = true := decide_eq_true c4; clear c4
      by_cases c5 : (wrap64 (x3_1 + ((rd_L2 l0 x11_1).length : Int))) < 0
      ·rw [if_pos c5] at H; exact absurd H (by simp)
      ·rw [if_neg c5] at H; have c5b0 : decide ((wrap64 (x3_1 + ((rd_L2 l0 x11_1).length : Int))) < 0) = false := decide_eq_false c5; clear c5; have H' := aM H; clear H; have p320 : 0 ≤ (x11_1 : Int) := dT; have q320 : x11_1 < (l0.length : Int) := dT; obtain ⟨ad320, A320_0, c320_0, e320, hx320_0, hl320_0, hi320_0⟩ := at_L2 HR0.out x11_1 p320 q320; cases e320
       replace hx320_0 := (HB.out.cell (World.block_lt_of_cell? w _ hx320_0)).trans hx320_0; have HR320_0 := aM hi320_0; have HC320_0 := aM hl320_0; clear hi320_0 hl320_0; replace p320 := eq_true p320; replace q320 := eq_true q320; go_wp2
       go_roundg k1
       case measure => have := HK1.out; omega
       case rel => exact ⟨(wrap64 (x3_1 + ((rd_L2 l0 x11_1).length : Int))), (wrap64 (x11_1 + 1)), rT, rT, H', ⟨by have := HK1.out; omega⟩, ⟨hB_t HB.out⟩⟩
     ·rw [if_neg c4] at H; exact absurd H (by simp)
    ·rw [if_neg c3] at H; exact absurd H (by simp)
   ·rw [if_neg c2] at H; have c2b0 : decide (x11_1 < (l0.length : Int)) = false := decide_eq_false c2; clear c2; replace H := Option.bind_eq_some_iff.mp H; obtain ⟨t321, A60, H⟩ := H; replace H : (api_Range_49.l1 k1 t321 l0 (l0.length : Int) 0) = some r := H; have A6 := aM A60; clear A60; have H' := aM H; clear H; go_wp2_with (first | ((with_reducible refine gate_callee (f := 58) rfl ?_); refine goesL_ (some 24) rfl rfl Try.func58 (by kernel_rfl) rfl #[.slice none 0 0, .int .i64 x3_1] rfl mT ?_; (with_reducible refine (api_Range_58.calls x3_1 t321 _ A6.out).mono ?_); rintro e w7 ⟨v322, rfl, ho0, hb⟩; refine ⟨_, rfl, ?_⟩; have n0_ := aM (Kd.R_lower ho0 (below_size (hB_t HB.out))); have n1_ := aM (below_step (hB_t HB.out) hb); clear HB; have HO323 := n0_; have HB := n1_; clear n0_ n1_; (try clear hb); (try clear hb2); (try clear hk); (try clear hi); (try clear ho0)))
    go_loopg [6, 27] k1 (fun kq v6 v27 w' => ∃ (x6_2 : List (S41)) (x27_2 : Int), v27 = .int .i64 x27_2 ∧ Aside0 (api_Range_49.l1 kq x6_2 l0 (l0.length : Int) x27_2 = some r) ∧ Aside0 (kq ≤ k1) ∧ Aside0 (Kd.R k41 41 w' w.heap.size (fun _ => True) v6 x6_2) ∧ Aside0 (Below w.heap.size w w'))
    case atStart => exact ⟨(t321), (0), rT, H', ⟨Nat.le_refl _⟩, ⟨Kd.R_t HO323.out⟩, ⟨hB_t HB.out⟩⟩
    case round =>
     clear H'; (try clear c2); (try clear c2b0); (try clear p2); (try clear c3); (try clear c3b0); (try clear p3); (try clear q3); (try clear hx3); (try clear c4); (try clear c4b0); (try clear c5); (try clear c5b0); (try clear p6); (try clear hx320_0); (try clear p320); (try clear q320); (try clear HK2); (try clear HO_6); (try clear HB); obtain ⟨x6_2, x27_2, rfl, HA, HK2, HO_6, HB⟩ := hrel
     cases gk with
     | zero => exact absurd HA.out (by simp [api_Range_49.l1])
     | succ k2 =>
      have H := HA.out; clear HA; simp only [api_Range_49.l1] at H
      by_cases c8 : x27_2 < (l0.length : Int)
      ·rw [if_pos c8] at H; have c8b0 : decide (x27_2 < (l0.length : Int)) = true := decide_eq_true c8; clear c8
       by_cases c9 : 0 ≤ x27_2
       ·rw [if_pos c9] at H; have c9b0 : decide (0 ≤ x27_2) = true := decide_eq_true c9; clear c9
        by_cases c10 : x27_2 < (l0.length : Int)
        ·rw [if_pos c10] at H; have c10b0 : decide (x27_2 < (l0.length : Int)) = true := decide_eq_true c10; clear c10
         by_cases c11 : x6_2.length + (rd_L2 l0 x27_2).length < 17592186044416
         ·rw [if_pos c11] at H; have LMc11 := aM c11; clear c11; obtain ⟨y325, hy325⟩ : ∃ y_ : List (S41), y_ = (x6_2 ++ (rd_L2 l0 x27_2)) := ⟨_, rfl⟩; replace H : (api_Range_49.l1 k2 y325 l0 (l0.length : Int) (wrap64 (x27_2 + 1))) = some r := by first | (rw [hy325]; with_reducible exact H) | (have H2_ := (Option.bind_some _ _).symm.trans H; rw [hy325]; with_reducible exact H2_) | (have H2_ := (Option.bind_some _ _).symm.trans H; with_reducible exact H2_) | with_reducible exact H | (rw [hy325]; exact H) | exact H
          have Ny325 := aM hy325; clear hy325; have H' := aM H; clear H; have p324 : 0 ≤ (x27_2 : Int) := dT; have q324 : x27_2 < (l0.length : Int) := dT; obtain ⟨ad324, A324_0, c324_0, e324, hx324_0, hl324_0, hi324_0⟩ := at_L2 HR0.out x27_2 p324 q324; cases e324
          replace hx324_0 := (HB.out.cell (World.block_lt_of_cell? w _ hx324_0)).trans hx324_0; have HR324_0 := aM hi324_0; have HC324_0 := aM hl324_0; clear hi324_0 hl324_0; replace p324 := eq_true p324; replace q324 := eq_true q324; go_wp2_with (first | ((with_reducible refine gate_builtin (b := .append) (xs := #[.tmp 31, .tmp 32]) rfl ?_); at_builtin; refine Kd.R_append_rows k41 (w0 := w) w.heap.size rfl (.tmp 31) (.tmp 32) 24 41 (.agg #[(.int .i32 0), (.int .i32 0)]) 8 rfl Try.underlying24 info41 rfl (by decide) (by omega) u6 x6_2 (rd_L2 l0 x27_2) _ _ _ (fun _ => True) (fun _ => False) rfl rfl ?aO ?aR (fun _ _ h => h) (fun _ h => h.elim) ?aF ?aB ?aS ?aL ?_; (case aR => exact Kd.C_t (Kd.C_below HR324_0.out HB.out)); (case aB => exact (hB_t HB.out)); (case aF => exact (fun _ _ => trivial)); (case aO => exact (Kd.R_t HO_6.out)); (case aS => exact (below_size (hB_t HB.out))); (case aL => have := LMc11.out; omega); intro v326 w12 ho hb hg hat; rw [← Ny325.out] at ho; have n0_ := aM (hb); have n1_ := aM (ho); clear HB; clear HO_6; have HB := n0_; have HO327 := n1_; clear n0_ n1_; clear ho hb hg hat))
          go_roundg k2
          case measure => have := HK1.out; have := HK2.out; omega
          case rel => exact ⟨(y325), (wrap64 (x27_2 + 1)), rT, H', ⟨by have := HK1.out; have := HK2.out; omega⟩, ⟨Kd.R_t HO327.out⟩, ⟨hB_t HB.out⟩⟩
         ·rw [if_neg c11] at H; exact absurd H (by simp)
        ·rw [if_neg c10] at H; exact absurd H (by simp)
       ·rw [if_neg c9] at H; exact absurd H (by simp)
      ·rw [if_neg c8] at H; have c8b0 : decide (x27_2 < (l0.length : Int)) = false := decide_eq_false c8; clear c8; obtain rfl := Option.some.inj H; go_wp2
       go_ret
       exact ⟨_, rE, by (with_reducible repeat (first | apply Kd.R_alloc | apply Kd.R_drewN | apply Kd.R_drew)); exact HO_6.out, hB_t HB.out⟩

/-! ### charset_Union: function 24 -/
def charset_Union.f (k : Nat) (l0 : List (List (S41))) : Option ((List (S41))) := (api_Range_49.f k l0).bind fun t328 => ((charset_Of.f k t328).bind fun t331 => (some t331))
set_option maxHeartbeats 8000000 in
set_option maxRecDepth 100000 in
theorem charset_Union.calls (k : Nat) (A0 : Option Addr) (c0 : Nat) (l0 : List (List (S41))) (r : List (S41)) (w : World) (hr0 : Kd.C (Kd.slice 41 k41) w A0 l0.length l0) (hc0 : l0.length ≤ c0) (h : charset_Union.f k l0 = some r) :
  Calls Try.prog 24 #[.slice A0 l0.length c0] w fun e w' => ∃ v0_ : Value, e = .returned (v0_) ∧ Kd.R k41 41 w' w.heap.size (fun _ => True) v0_ r ∧ Below w.heap.size w w' := by
 have HR0 := aM hr0; have HC0 := aM hc0; clear hr0 hc0; have HB := aM (Below.refl w.heap.size w); have H : ((api_Range_49.f k l0).bind fun t328 => ((charset_Of.f k t328).bind fun t331 => (some t331))) = some r := h; clear h; replace H := Option.bind_eq_some_iff.mp H; obtain ⟨t328, A20, H⟩ := H; replace H : ((charset_Of.f k t328).bind fun t331 => (some t331)) = some r := H; have A2 := aM A20; clear A20; replace H := Option.bind_eq_some_iff.mp H; obtain ⟨t331, A30, H⟩ := H; replace H : (some t331) = some r := H; have A3 := aM A30; clear A30; obtain rfl := Option.some.inj H; go_enter Try.func24, Try.ntmps24
 go_wp2_with (first | ((with_reducible refine gate_callee (f := 49) rfl ?_); refine goesL_ (some 4) rfl rfl Try.func49 (by kernel_rfl) rfl #[.slice A0 l0.length c0] rfl mT ?_; (with_reducible refine (api_Range_49.calls k _ _ l0 t328 _ ?side1 ?side2 A2.out).mono ?_); (case side1 => exact Kd.C_t HR0.out); (case side2 => exact HC0.out); rintro e w4 ⟨v329, rfl, ho0, hb⟩; refine ⟨_, rfl, ?_⟩; have n0_ := aM (Kd.R_lower ho0 (below_size (hB_t HB.out))); have n1_ := aM (below_step (hB_t HB.out) hb); clear HB; have HO330 := n0_; have HB := n1_; clear n0_ n1_; (try clear hb); (try clear hb2); (try clear hk); (try clear hi); (try clear ho0); obtain ⟨Ao5, co5, eo5⟩ := Kd.R_slice HO330.out; subst eo5) | ((with_reducible refine gate_callee (f := 10) rfl ?_); refine goesL_ (some 5) rfl rfl Try.func10 (by kernel_rfl) rfl #[.slice Ao5 t328.length co5] rfl mT ?_; (with_reducible refine (charset_Of.calls k _ _ t328 t331 _ ?side1 ?side2 A3.out).mono ?_); (case side1 => exact Kd.C_t ((Kd.R_reads' HO330.out).2.2)); (case side2 => exact (Kd.R_reads' HO330.out).2.1); rintro e w6 ⟨v332, rfl, ho0, hb⟩; refine ⟨_, rfl, ?_⟩; have n0_ := aM (Kd.R_elder' (Kd.R_t HO330.out) (Kd.R_base ho0) hb); have n1_ := aM (Kd.R_lower (Kd.R_new' ho0 (Kd.R_lt (Kd.R_t HO330.out))) (below_size (hB_t HB.out))); have n2_ := aM (below_step (hB_t HB.out) hb); clear HO330; clear HB; have HO330 := n0_; have HO333 := n1_; have HB := n2_; clear n0_ n1_ n2_; (try clear hb); (try clear hb2); (try clear hk); (try clear hi); (try clear ho0)))
 go_ret
 exact ⟨_, rE, by (with_reducible repeat (first | apply Kd.R_alloc | apply Kd.R_drewN | apply Kd.R_drew)); exact Kd.R_mono HO333.out (fun _ hk => trivial), hB_t HB.out⟩

end Go.Proofs.Ytomccgpachmpbaa.PB
