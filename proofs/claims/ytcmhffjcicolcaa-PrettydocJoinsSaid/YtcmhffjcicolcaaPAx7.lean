-- WRITTEN BY pp.py out of the translation; Lean checks it.
import Derived.Test.YtcmhffjcicolcaaPAx0
import Derived.Test.YtcmhffjcicolcaaPAx1
import Derived.Test.YtcmhffjcicolcaaPAx4
namespace Go.Proofs.Ytcmhffjcicolcaa.PA
open Go.RowKit Go.Proofs.YtcmhffjcicolcaaW.PrintWords Go.Proofs.YtcmhffjcicolcaaW.PrintLast Go.Proofs.YtcmhffjcicolcaaW.PrintMore
attribute [local go_sem] max2_int min2_int max_two min_two max_three min_three max_four min_four   -- for this text's walks alone
set_option linter.unusedVariables false
set_option linter.unusedSimpArgs false

/-! ### prettydoc_Flat: function 19 -/
/-- What the other blocks (of other types than the buffer's) hold stays. -/
def Others (b : Nat) (w w' : World) : Prop := ∀ (g : Nat) (cs : Array Value) (t : TypeId), w.heap[g]? = some (.cells cs t (0, 0)) → g ≠ b → t ≠ 5 → w'.heap[g]? = some (.cells cs t (0, 0))
set_option maxHeartbeats 1000000 in
set_option maxRecDepth 100000 in
theorem copyCheck_used (b : Nat) (w : World) (h0 : w.cell? ⟨b, 0, none⟩ = some (.pointer (some ⟨b, 0, none⟩))) :
    Calls Try.prog 43 #[.pointer (some ⟨b, 0, none⟩)] w fun e w' => e = .returned (.tuple #[]) ∧ w' = w := by
  obtain ⟨j, hj, _⟩ := Option.map_eq_some_iff.1 (show (Try.prog.info? 48).map (fun i => i.size) = some 2 by kernel_rfl)
  go_enter Try.func43, Try.ntmps43
  go_wp2
  rw [Lib.run_neq_ptr_same w _ Try.underlying45 hj]
  go_wp2
  go_end0
  exact ⟨rfl, rfl⟩
set_option maxHeartbeats 1000000 in
set_option maxRecDepth 100000 in
theorem copyCheck_fresh (b : Nat) (w : World) (h0 : w.cell? ⟨b, 0, none⟩ = some (.pointer none)) (hsh : w.shape? b = some (48, 2)) (hfz : w.frozen? ⟨b, 0, none⟩ = false) :
    Calls Try.prog 43 #[.pointer (some ⟨b, 0, none⟩)] w fun e w' => e = .returned (.tuple #[]) ∧ w' = w.setCell ⟨b, 0, none⟩ (.pointer (some ⟨b, 0, none⟩)) := by
  obtain ⟨j, hj, hjs⟩ := Option.map_eq_some_iff.1 (show (Try.prog.info? 48).map (fun i => i.size) = some 2 by kernel_rfl)
  go_enter Try.func43, Try.ntmps43
  go_wp2
  rw [Lib.run_to_unsafe w ⟨b, 0, none⟩ Try.underlying45 Try.underlying56 hj (by rw [hjs]; decide) hsh (Nat.zero_lt_succ 1)]
  simp only [Result.andThen]
  rw [Oper.upon_value]
  go_wp2
  rw [run_callFunc_extern Try.func45 (by kernel_rfl) (by kernel_rfl) (by kernel_rfl) (e := Extern.AbiNoEscape.same) (by kernel_rfl)]
  rw [Lib.run_noEscape]
  simp only [Result.andThen]
  rw [Oper.upon_value]
  go_wp2
  rw [Lib.run_from_unsafe w ⟨b, 0, none⟩ Try.underlying56 Try.underlying45 hj hsh (by kernel_rfl)]
  simp only [Result.andThen]
  rw [Oper.upon_value]
  go_wp2
  go_end0
  exact ⟨rfl, rfl⟩
theorem copyCheck_any (B b : Nat) (bs : List Value) (w : World) (h : Lib.IsBuilder 48 5 B b bs w) :
    Calls Try.prog 43 #[.pointer (some ⟨b, 0, none⟩)] w fun e w' => e = .returned (.tuple #[]) ∧ Lib.BuilderAt 48 5 B b (.pointer (some ⟨b, 0, none⟩)) bs w' ∧ Below B w w' ∧ Others b w w' := by
  rcases h with h | h
  · refine (copyCheck_fresh b w h.cell0 h.shape h.frozen0).mono ?_
    rintro e w' ⟨rfl, rfl⟩
    exact ⟨rfl, h.used _, (Below.refl B w).setCell (p := ⟨b, 0, none⟩) h.1 _, fun g cs t hg hne _ => blk_far hg (p := ⟨b, 0, none⟩) hne _⟩
  · refine (copyCheck_used b w h.cell0).mono ?_
    rintro e w' ⟨rfl, rfl⟩
    exact ⟨rfl, h, Below.refl B _, fun g cs t hg _ _ => hg⟩
set_option maxHeartbeats 2000000 in
set_option maxRecDepth 100000 in
theorem writeString (B b : Nat) (bs : List Value) (s : ByteArray) (w : World) (h : Lib.IsBuilder 48 5 B b bs w) (hlen : bs.length + s.size ≤ 140737488355328) (hBw : B ≤ w.heap.size) :
    Calls Try.prog 37 #[.pointer (some ⟨b, 0, none⟩), .string s] w fun e w' => e = .returned (.tuple #[.int .i64 s.size, .nilIface]) ∧ Lib.BuilderAt 48 5 B b (.pointer (some ⟨b, 0, none⟩)) (bs ++ Lib.strCells s) w' ∧ Below B w w' ∧ Others b w w' := by
  obtain ⟨i0, hi, hz0, hz1, hz2⟩ := info_parts (show (Try.prog.info? 5).map (fun i => (i.zero, i.size, i.bytes)) = some (some (.int .u8 0), 1, 1) by kernel_rfl)
  go_enter Try.func37, Try.ntmps37
  go_wp2_with fail
  refine (copyCheck_any B b bs _ h).mono ?_
  rintro e w1 ⟨rfl, h1, hb1, ho1⟩
  obtain ⟨hB, v, hbk, hown, hne⟩ := h1
  have c0 : w1.cell? ⟨b, 0, none⟩ = some (.pointer (some ⟨b, 0, none⟩)) := by rw [Lib.cell_of_heap hbk]; rfl
  have c1 : w1.cell? ⟨b, 1, none⟩ = some v := by rw [Lib.cell_of_heap hbk]; rfl
  go_wp2_with (at_builtin; refine Lib.wpList_append_own_string _ rfl _ _ 46 9 rfl B 5 i0 Try.underlying46 Try.underlying9 hi hz0 hz1 hz2 _ _ _ rfl hown s rfl ?c3 ?c4 ?c5 ?_)
  case c3 => unfold maxLen; omega
  case c4 => omega
  case c5 => have := hb1.size; omega
  intro v' w2 hown' hgrow _
  have hlt : b < w1.heap.size := by
    rcases Nat.lt_or_ge b w1.heap.size with h' | h'
    · exact h'
    · simp [Array.getElem?_eq_none h'] at hbk
  have hb2 : w2.heap[b]? = some (.cells #[.pointer (some ⟨b, 0, none⟩), v] 48 (0, 0)) := by
    rw [hgrow.block b hlt (fun e => hne e.symm)]
    exact hbk
  have d0 : w2.cell? ⟨b, 0, none⟩ = some (.pointer (some ⟨b, 0, none⟩)) := by rw [Lib.cell_of_heap hb2]; rfl
  have d1 : w2.cell? ⟨b, 1, none⟩ = some v := by rw [Lib.cell_of_heap hb2]; rfl
  have f1 : w2.frozen? ⟨b, 1, none⟩ = false := Lib.frozen_of_heap hb2 1
  obtain ⟨ao, n', cap, rfl⟩ : ∃ ao n' cap, v' = .slice ao n' cap := by
    rcases hown'.2 with ⟨hv, _⟩ | ⟨g, cap, cur, hv, _⟩
    · exact ⟨_, _, _, hv⟩
    · exact ⟨_, _, _, hv⟩
  go_wp2
  go_ret2
  refine ⟨rfl, ?_, ?_, ?_⟩
  · exact Lib.BuilderAt.put (T := 48) (e := 5) hB hb2 (bs' := bs ++ Lib.strCells s) (by simpa [Lib.strCells_length] using hown') (by decide)
  · exact (hb1.grown hgrow (by have := hb1.size; omega) (fun k hk => (hown.lt k hk).1)).setCell (p := ⟨b, 1, none⟩) hB _
  · intro g cs t hg hgb ht
    have h2 := ho1 g cs t hg hgb ht
    have h3 : w2.heap[g]? = some (.cells cs t (0, 0)) := by
      rw [hgrow.block g (blk_lt h2) (fun e => by
        obtain ⟨cells, hc⟩ := own_typed hown g e.symm
        rw [hc] at h2
        injection h2 with h2
        injection h2 with _ h2
        exact ht h2.symm)]
      exact h2
    exact blk_far h3 (p := ⟨b, 1, none⟩) hgb _

theorem lib_lt {B b : Nat} {bs : List Value} {w : World} (h : Lib.IsBuilder 48 5 B b bs w) : b < w.heap.size := by
  rcases h with h | h <;> exact h.lt
theorem cells_append (a : List UInt8) (s : ByteArray) : Lib.byteCells (a ++ s.data.toList) = Lib.byteCells a ++ Lib.strCells s := by
  simp [Lib.byteCells, Lib.strCells]

mutual
def prettydoc_Flat_1.l0 : Nat → List S25 → Int → List UInt8 → Option (Bool × List UInt8)
  | 0, _, _, _ => none
  | k + 1, l, i, acc => if i < (l.length : Int) then (prettydoc_Flat_1.f k (rd_T25 l i).f0 (rd_T25 l i).f1 (rd_T25 l i).f3 acc).bind fun m => (if m.1 = true then prettydoc_Flat_1.l0 k l (wrap64 (i + 1)) m.2 else some (false, m.2)) else some (true, acc)
def prettydoc_Flat_1.f : Nat → Int → ByteArray → List S25 → List UInt8 → Option (Bool × List UInt8)
  | 0, _, _, _, _ => none
  | k + 1, a, s, l, acc => if a = 2 then (if acc.length + s.size ≤ 140737488355328 then prettydoc_Flat_1.l0 k l 0 (acc ++ s.data.toList) else none) else (if a = 3 then (if acc.length + 1 ≤ 140737488355328 then prettydoc_Flat_1.l0 k l 0 (acc ++ [32]) else none) else (if a = 5 then some (false, acc) else prettydoc_Flat_1.l0 k l 0 acc))
end
theorem prettydoc_Flat_1.mono_l : ∀ k, (∀ y0 y1 y2 y3, LeO (prettydoc_Flat_1.f k y0 y1 y2 y3) (prettydoc_Flat_1.f (k + 1) y0 y1 y2 y3)) ∧ (∀ y0 y1 y2, LeO (prettydoc_Flat_1.l0 k y0 y1 y2) (prettydoc_Flat_1.l0 (k + 1) y0 y1 y2))
  | 0 => ⟨fun _ _ _ _ r h => by simp [prettydoc_Flat_1.f] at h, fun _ _ _ r h => by simp [prettydoc_Flat_1.l0] at h⟩
  | k + 1 => by
    obtain ⟨ih0, ih1⟩ := prettydoc_Flat_1.mono_l k
    refine ⟨?_, ?_⟩
    · intro y0 y1 y2 y3
      unfold prettydoc_Flat_1.f
      repeat' first
      | (with_reducible exact ih0 _ _ _ _)
      | (with_reducible exact ih1 _ _ _)
      | (with_reducible exact LeO.refl _)
      | (with_reducible exact LeO.none _)
      | (with_reducible refine LeO.ite ?_ ?_)
      | (with_reducible refine LeO.bind ?_ (fun _ => ?_))
    · intro y0 y1 y2
      unfold prettydoc_Flat_1.l0
      repeat' first
      | (with_reducible exact ih0 _ _ _ _)
      | (with_reducible exact ih1 _ _ _)
      | (with_reducible exact LeO.refl _)
      | (with_reducible exact LeO.none _)
      | (with_reducible refine LeO.ite ?_ ?_)
      | (with_reducible refine LeO.bind ?_ (fun _ => ?_))
/-- A builder's block and its row are as they were. -/
theorem builder_move {B b : Nat} {bs : List Value} {w w1 : World} (h : Lib.IsBuilder 48 5 B b bs w) (hm : ∀ i, i < w.heap.size → w1.heap[i]? = w.heap[i]?) : Lib.IsBuilder 48 5 B b bs w1 := by
  have key : ∀ p, Lib.BuilderAt 48 5 B b p bs w → Lib.BuilderAt 48 5 B b p bs w1 := by
    rintro p ⟨hB, v, hb, ho, hne⟩
    refine ⟨hB, v, (hm b (blk_lt hb)).trans hb, own_move ho (fun k hk => ?_), hne⟩
    obtain ⟨cells, hc⟩ := own_typed ho k hk
    exact hm k (blk_lt hc)
  exact h.imp (key _) (key _)
theorem builder_alloc {B b : Nat} {bs : List Value} {w : World} (h : Lib.IsBuilder 48 5 B b bs w) (o : Obj) : Lib.IsBuilder 48 5 B b bs (w.alloc o) := builder_move h (fun i hi => Below.heap_alloc w o i hi)

set_option maxHeartbeats 2000000 in
set_option maxRecDepth 100000 in
theorem flat1_calls (W0 : World) (bb bc : Nat) (hbb : W0.heap.size ≤ bb) (hbc : W0.heap.size ≤ bc) (hne : bb ≠ bc) (k : Nat) : ∀ (a0_0 : Int) (a0_1 : ByteArray) (a0_2 : Int) (A : Option Addr) (c : Nat) (l : List S25) (acc : List UInt8) (r : Bool) (out : List UInt8) (w : World)
    (hn : Lib.IsBuilder 48 5 W0.heap.size bb (Lib.byteCells acc) w) (hf : w.heap[bc]? = some (.cells #[.func (.func 36) #[] #[.pointer (some ⟨bb, 0, none⟩), .pointer (some ⟨bc, 0, none⟩)]] 31 (0, 0)))
    (hr : Kd.C k25 W0 A l.length l) (hc : l.length ≤ c) (hB : Below W0.heap.size W0 w) (h : prettydoc_Flat_1.f k a0_0 a0_1 l acc = some (r, out)),
    Calls Try.prog 36 #[.agg #[.int .i64 a0_0, .string a0_1, .int .i64 a0_2, .slice A l.length c], .pointer (some ⟨bb, 0, none⟩), .pointer (some ⟨bc, 0, none⟩)] w fun e w' =>
      e = .returned (.bool r) ∧ Lib.IsBuilder 48 5 W0.heap.size bb (Lib.byteCells out) w' ∧ w'.heap[bc]? = some (.cells #[.func (.func 36) #[] #[.pointer (some ⟨bb, 0, none⟩), .pointer (some ⟨bc, 0, none⟩)]] 31 (0, 0)) ∧ Below W0.heap.size W0 w' := by
  induction k using Nat.strongRecOn with
  | _ k ih =>
  intro a0_0 a0_1 a0_2 A c l acc r out w hn hf hr hc hB h
  cases k with
  | zero => exact absurd h (by simp [prettydoc_Flat_1.f])
  | succ k =>
  simp only [prettydoc_Flat_1.f] at h
  have hu25 := Try.underlying25
  have HR := Aside0.mk hr
  have HC := Aside0.mk hc
  have HN := Aside0.mk hn
  have HF := Aside0.mk hf
  have HB := Aside0.mk hB
  have IH := Aside0.mk ih
  have H := Aside0.mk h
  have hl64 : (l.length : Int) ≤ 9223372036854775807 := by have := HR.out.2.1; omega
  have HL := Aside0.mk hl64
  have d0 : w.cell? ⟨bc, 0, none⟩ = some (.func (.func 36) #[] #[.pointer (some ⟨bb, 0, none⟩), .pointer (some ⟨bc, 0, none⟩)]) := (blk_cell hf 0).trans rfl
  have lt1 : bc < w.heap.size := blk_lt hf
  clear hr hc hn hf hB ih h hl64
  by_cases t2 : a0_0 = 2
  · have b2 : (a0_0 == 2) = true := beq_iff_eq.mpr t2
    have H1 := H.out
    rw [if_pos t2] at H1
    clear H
    split at H1
    case isFalse => exact absurd H1 (by simp)
    rename_i hlen
    have HLEN := Aside0.mk hlen
    have H := Aside0.mk H1
    clear H1 t2 hlen
    go_enter Try.func36, Try.ntmps36
    go_wp2_with fail
    refine (writeString W0.heap.size bb _ a0_1 _ (builder_alloc HN.out _) (by rw [Lib.byteCells_length]; exact HLEN.out) (below_alloc HB.out _).size).mono ?_
    rintro e w1 ⟨rfl, hn1, hb1, ho1⟩
    have HN1 : Aside0 (Lib.IsBuilder 48 5 W0.heap.size bb (Lib.byteCells (acc ++ a0_1.data.toList)) w1) := ⟨.inr (by rw [cells_append]; exact hn1)⟩
    have HF1 := Aside0.mk (ho1 bc _ 31 (blk_alloc HF.out _) (fun e => hne e.symm) (by decide))
    have HB1 := Aside0.mk ((below_alloc HB.out _).trans hb1)
    have HX1 := Aside0.mk (ho1 w.heap.size _ 25 (blk_alloc_at rfl) (fun e => by have := lib_lt HN.out; omega) (by decide))
    have hx3 : w1.cell? ⟨w.heap.size, 3, none⟩ = some (.slice A l.length c) := (blk_cell HX1.out 3).trans rfl
    clear hn1 hb1 ho1 HN HF HB d0 lt1
    go_wp2_with fail

    go_loopg [22] k (fun kq v22 w' => ∃ (i : Int) (acc2 : List UInt8), v22 = .int .i64 i ∧ Aside0 (0 ≤ i) ∧ Aside0 (prettydoc_Flat_1.l0 kq l i acc2 = some (r, out)) ∧ Aside0 (kq ≤ k) ∧ Aside0 (Lib.IsBuilder 48 5 W0.heap.size bb (Lib.byteCells acc2) w') ∧ Aside0 (w'.heap[bc]? = some (.cells #[.func (.func 36) #[] #[.pointer (some ⟨bb, 0, none⟩), .pointer (some ⟨bc, 0, none⟩)]] 31 (0, 0))) ∧ Aside0 (Below W0.heap.size W0 w'))
    case atStart => exact ⟨0, _, rfl, ⟨Int.le_refl _⟩, H, ⟨Nat.le_refl _⟩, HN1, HF1, HB1⟩
    case round =>
      clear H HN1 HF1 HB1 HX1 hx3
      obtain ⟨i, acc2, rfl, HI, HA, HK, HN, HF, HB⟩ := hrel
      cases gk with
      | zero => exact absurd HA.out (by simp [prettydoc_Flat_1.l0])
      | succ k2 =>
        have H := HA.out
        clear HA
        simp only [prettydoc_Flat_1.l0] at H
        have d0 : wr.cell? ⟨bc, 0, none⟩ = some (.func (.func 36) #[] #[.pointer (some ⟨bb, 0, none⟩), .pointer (some ⟨bc, 0, none⟩)]) := (blk_cell HF.out 0).trans rfl
        have lt1 : bc < wr.heap.size := blk_lt HF.out
        by_cases c7 : i < (l.length : Int)
        · rw [if_pos c7] at H
          have c7b0 : decide (i < (l.length : Int)) = true := decide_eq_true c7
          obtain ⟨ad, A3, c3, e3, hx0, hx1, hx2, hx3, hl3, hi3⟩ := at_T25 HR.out i HI.out c7
          cases e3
          have hx0 := (HB.out.cell (World.block_lt_of_cell? W0 _ hx0)).trans hx0
          have hx1 := (HB.out.cell (World.block_lt_of_cell? W0 _ hx1)).trans hx1
          have hx2 := (HB.out.cell (World.block_lt_of_cell? W0 _ hx2)).trans hx2
          have hx3 := (HB.out.cell (World.block_lt_of_cell? W0 _ hx3)).trans hx3
          have HR3 := Aside0.mk hi3
          have HC3 := Aside0.mk hl3
          clear hi3 hl3
          have p0 := eq_true HI.out
          replace c7 := eq_true c7
          replace H := Option.bind_eq_some_iff.mp H
          obtain ⟨⟨m1, m2⟩, A10, H⟩ := H
          have A1 := Aside0.mk A10
          have H1 := Aside0.mk H
          clear A10 H
          go_wp2_with fail
          refine (IH.out k2 (by have := HK.out; omega) _ _ _ A3 c3 _ acc2 m1 m2 _ (builder_alloc HN.out _) (blk_alloc HF.out _) HR3.out HC3.out (below_alloc HB.out _) A1.out).mono ?_
          rintro e w1 ⟨rfl, hn1, hf1, hb1⟩
          have HN1 := Aside0.mk hn1
          have HF1 := Aside0.mk hf1
          have HB1 := Aside0.mk hb1
          clear hn1 hf1 hb1
          cases m1 with
          | true =>
            have H2 : prettydoc_Flat_1.l0 k2 l (wrap64 (i + 1)) m2 = some (r, out) := by have := H1.out; simpa using this
            have H3 := Aside0.mk H2
            clear H1 H2
            go_wp2_with fail
            go_roundg k2
            case measure => have := HK.out; omega
            case rel => exact ⟨_, m2, rfl, ⟨by have := HI.out; have := HL.out; have := of_eq_true c7; unfold wrap64; omega⟩, H3, ⟨by have := HK.out; omega⟩, HN1, HF1, HB1⟩
          | false =>
            have H2 : (false, m2) = (r, out) := by have := H1.out; simpa using this
            injection H2 with H2 H3
            subst H2 H3
            clear H1
            go_wp2_with fail
            go_ret
            exact ⟨rfl, HN1.out, HF1.out, HB1.out⟩
        · rw [if_neg c7] at H
          have c7b0 : decide (i < (l.length : Int)) = false := decide_eq_false c7
          injection H with H
          injection H with H2 H3
          subst H2 H3
          go_wp2_with fail
          go_ret
          exact ⟨rfl, HN.out, HF.out, HB.out⟩

  have b2 : (a0_0 == 2) = false := beq_eq_false_iff_ne.mpr t2
  by_cases t3 : a0_0 = 3
  · have b3 : (a0_0 == 3) = true := beq_iff_eq.mpr t3
    have H1 := H.out
    rw [if_neg t2, if_pos t3] at H1
    clear H
    split at H1
    case isFalse => exact absurd H1 (by simp)
    rename_i hlen
    have HLEN := Aside0.mk hlen
    have H := Aside0.mk H1
    clear H1 t2 t3 hlen
    go_enter Try.func36, Try.ntmps36
    go_wp2_with fail
    refine (writeString W0.heap.size bb _ ⟨#[32]⟩ _ (builder_alloc HN.out _) (by rw [Lib.byteCells_length]; exact HLEN.out) (below_alloc HB.out _).size).mono ?_
    rintro e w1 ⟨rfl, hn1, hb1, ho1⟩
    have HN1 : Aside0 (Lib.IsBuilder 48 5 W0.heap.size bb (Lib.byteCells (acc ++ [32])) w1) := ⟨.inr (by rw [show ([32] : List UInt8) = (⟨#[32]⟩ : ByteArray).data.toList from rfl, cells_append]; exact hn1)⟩
    have HF1 := Aside0.mk (ho1 bc _ 31 (blk_alloc HF.out _) (fun e => hne e.symm) (by decide))
    have HB1 := Aside0.mk ((below_alloc HB.out _).trans hb1)
    have HX1 := Aside0.mk (ho1 w.heap.size _ 25 (blk_alloc_at rfl) (fun e => by have := lib_lt HN.out; omega) (by decide))
    have hx3 : w1.cell? ⟨w.heap.size, 3, none⟩ = some (.slice A l.length c) := (blk_cell HX1.out 3).trans rfl
    clear hn1 hb1 ho1 HN HF HB d0 lt1
    go_wp2_with fail

    go_loopg [22] k (fun kq v22 w' => ∃ (i : Int) (acc2 : List UInt8), v22 = .int .i64 i ∧ Aside0 (0 ≤ i) ∧ Aside0 (prettydoc_Flat_1.l0 kq l i acc2 = some (r, out)) ∧ Aside0 (kq ≤ k) ∧ Aside0 (Lib.IsBuilder 48 5 W0.heap.size bb (Lib.byteCells acc2) w') ∧ Aside0 (w'.heap[bc]? = some (.cells #[.func (.func 36) #[] #[.pointer (some ⟨bb, 0, none⟩), .pointer (some ⟨bc, 0, none⟩)]] 31 (0, 0))) ∧ Aside0 (Below W0.heap.size W0 w'))
    case atStart => exact ⟨0, _, rfl, ⟨Int.le_refl _⟩, H, ⟨Nat.le_refl _⟩, HN1, HF1, HB1⟩
    case round =>
      clear H HN1 HF1 HB1 HX1 hx3
      obtain ⟨i, acc2, rfl, HI, HA, HK, HN, HF, HB⟩ := hrel
      cases gk with
      | zero => exact absurd HA.out (by simp [prettydoc_Flat_1.l0])
      | succ k2 =>
        have H := HA.out
        clear HA
        simp only [prettydoc_Flat_1.l0] at H
        have d0 : wr.cell? ⟨bc, 0, none⟩ = some (.func (.func 36) #[] #[.pointer (some ⟨bb, 0, none⟩), .pointer (some ⟨bc, 0, none⟩)]) := (blk_cell HF.out 0).trans rfl
        have lt1 : bc < wr.heap.size := blk_lt HF.out
        by_cases c7 : i < (l.length : Int)
        · rw [if_pos c7] at H
          have c7b0 : decide (i < (l.length : Int)) = true := decide_eq_true c7
          obtain ⟨ad, A3, c3, e3, hx0, hx1, hx2, hx3, hl3, hi3⟩ := at_T25 HR.out i HI.out c7
          cases e3
          have hx0 := (HB.out.cell (World.block_lt_of_cell? W0 _ hx0)).trans hx0
          have hx1 := (HB.out.cell (World.block_lt_of_cell? W0 _ hx1)).trans hx1
          have hx2 := (HB.out.cell (World.block_lt_of_cell? W0 _ hx2)).trans hx2
          have hx3 := (HB.out.cell (World.block_lt_of_cell? W0 _ hx3)).trans hx3
          have HR3 := Aside0.mk hi3
          have HC3 := Aside0.mk hl3
          clear hi3 hl3
          have p0 := eq_true HI.out
          replace c7 := eq_true c7
          replace H := Option.bind_eq_some_iff.mp H
          obtain ⟨⟨m1, m2⟩, A10, H⟩ := H
          have A1 := Aside0.mk A10
          have H1 := Aside0.mk H
          clear A10 H
          go_wp2_with fail
          refine (IH.out k2 (by have := HK.out; omega) _ _ _ A3 c3 _ acc2 m1 m2 _ (builder_alloc HN.out _) (blk_alloc HF.out _) HR3.out HC3.out (below_alloc HB.out _) A1.out).mono ?_
          rintro e w1 ⟨rfl, hn1, hf1, hb1⟩
          have HN1 := Aside0.mk hn1
          have HF1 := Aside0.mk hf1
          have HB1 := Aside0.mk hb1
          clear hn1 hf1 hb1
          cases m1 with
          | true =>
            have H2 : prettydoc_Flat_1.l0 k2 l (wrap64 (i + 1)) m2 = some (r, out) := by have := H1.out; simpa using this
            have H3 := Aside0.mk H2
            clear H1 H2
            go_wp2_with fail
            go_roundg k2
            case measure => have := HK.out; omega
            case rel => exact ⟨_, m2, rfl, ⟨by have := HI.out; have := HL.out; have := of_eq_true c7; unfold wrap64; omega⟩, H3, ⟨by have := HK.out; omega⟩, HN1, HF1, HB1⟩
          | false =>
            have H2 : (false, m2) = (r, out) := by have := H1.out; simpa using this
            injection H2 with H2 H3
            subst H2 H3
            clear H1
            go_wp2_with fail
            go_ret
            exact ⟨rfl, HN1.out, HF1.out, HB1.out⟩
        · rw [if_neg c7] at H
          have c7b0 : decide (i < (l.length : Int)) = false := decide_eq_false c7
          injection H with H
          injection H with H2 H3
          subst H2 H3
          go_wp2_with fail
          go_ret
          exact ⟨rfl, HN.out, HF.out, HB.out⟩

  have b3 : (a0_0 == 3) = false := beq_eq_false_iff_ne.mpr t3
  by_cases t5 : a0_0 = 5
  · have b5 : (a0_0 == 5) = true := beq_iff_eq.mpr t5
    have H1 := H.out
    rw [if_neg t2, if_neg t3, if_pos t5] at H1
    injection H1 with H1
    injection H1 with H2 H3
    subst H2 H3
    clear t2 t3 t5 H
    go_enter Try.func36, Try.ntmps36
    go_wp2_with fail
    go_ret
    exact ⟨rfl, builder_alloc HN.out _, blk_alloc HF.out _, below_alloc HB.out _⟩
  · have b5 : (a0_0 == 5) = false := beq_eq_false_iff_ne.mpr t5
    have H1 := H.out
    rw [if_neg t2, if_neg t3, if_neg t5] at H1
    clear t2 t3 t5 H
    have H := Aside0.mk H1
    clear H1
    go_enter Try.func36, Try.ntmps36
    go_wp2_with fail

    go_loopg [22] k (fun kq v22 w' => ∃ (i : Int) (acc2 : List UInt8), v22 = .int .i64 i ∧ Aside0 (0 ≤ i) ∧ Aside0 (prettydoc_Flat_1.l0 kq l i acc2 = some (r, out)) ∧ Aside0 (kq ≤ k) ∧ Aside0 (Lib.IsBuilder 48 5 W0.heap.size bb (Lib.byteCells acc2) w') ∧ Aside0 (w'.heap[bc]? = some (.cells #[.func (.func 36) #[] #[.pointer (some ⟨bb, 0, none⟩), .pointer (some ⟨bc, 0, none⟩)]] 31 (0, 0))) ∧ Aside0 (Below W0.heap.size W0 w'))
    case atStart => exact ⟨0, _, rfl, ⟨Int.le_refl _⟩, H, ⟨Nat.le_refl _⟩, ⟨builder_alloc HN.out _⟩, ⟨blk_alloc HF.out _⟩, ⟨below_alloc HB.out _⟩⟩
    case round =>
      clear H HN HF HB d0 lt1
      obtain ⟨i, acc2, rfl, HI, HA, HK, HN, HF, HB⟩ := hrel
      cases gk with
      | zero => exact absurd HA.out (by simp [prettydoc_Flat_1.l0])
      | succ k2 =>
        have H := HA.out
        clear HA
        simp only [prettydoc_Flat_1.l0] at H
        have d0 : wr.cell? ⟨bc, 0, none⟩ = some (.func (.func 36) #[] #[.pointer (some ⟨bb, 0, none⟩), .pointer (some ⟨bc, 0, none⟩)]) := (blk_cell HF.out 0).trans rfl
        have lt1 : bc < wr.heap.size := blk_lt HF.out
        by_cases c7 : i < (l.length : Int)
        · rw [if_pos c7] at H
          have c7b0 : decide (i < (l.length : Int)) = true := decide_eq_true c7
          obtain ⟨ad, A3, c3, e3, hx0, hx1, hx2, hx3, hl3, hi3⟩ := at_T25 HR.out i HI.out c7
          cases e3
          have hx0 := (HB.out.cell (World.block_lt_of_cell? W0 _ hx0)).trans hx0
          have hx1 := (HB.out.cell (World.block_lt_of_cell? W0 _ hx1)).trans hx1
          have hx2 := (HB.out.cell (World.block_lt_of_cell? W0 _ hx2)).trans hx2
          have hx3 := (HB.out.cell (World.block_lt_of_cell? W0 _ hx3)).trans hx3
          have HR3 := Aside0.mk hi3
          have HC3 := Aside0.mk hl3
          clear hi3 hl3
          have p0 := eq_true HI.out
          replace c7 := eq_true c7
          replace H := Option.bind_eq_some_iff.mp H
          obtain ⟨⟨m1, m2⟩, A10, H⟩ := H
          have A1 := Aside0.mk A10
          have H1 := Aside0.mk H
          clear A10 H
          go_wp2_with fail
          refine (IH.out k2 (by have := HK.out; omega) _ _ _ A3 c3 _ acc2 m1 m2 _ (builder_alloc HN.out _) (blk_alloc HF.out _) HR3.out HC3.out (below_alloc HB.out _) A1.out).mono ?_
          rintro e w1 ⟨rfl, hn1, hf1, hb1⟩
          have HN1 := Aside0.mk hn1
          have HF1 := Aside0.mk hf1
          have HB1 := Aside0.mk hb1
          clear hn1 hf1 hb1
          cases m1 with
          | true =>
            have H2 : prettydoc_Flat_1.l0 k2 l (wrap64 (i + 1)) m2 = some (r, out) := by have := H1.out; simpa using this
            have H3 := Aside0.mk H2
            clear H1 H2
            go_wp2_with fail
            go_roundg k2
            case measure => have := HK.out; omega
            case rel => exact ⟨_, m2, rfl, ⟨by have := HI.out; have := HL.out; have := of_eq_true c7; unfold wrap64; omega⟩, H3, ⟨by have := HK.out; omega⟩, HN1, HF1, HB1⟩
          | false =>
            have H2 : (false, m2) = (r, out) := by have := H1.out; simpa using this
            injection H2 with H2 H3
            subst H2 H3
            clear H1
            go_wp2_with fail
            go_ret
            exact ⟨rfl, HN1.out, HF1.out, HB1.out⟩
        · rw [if_neg c7] at H
          have c7b0 : decide (i < (l.length : Int)) = false := decide_eq_false c7
          injection H with H
          injection H with H2 H3
          subst H2 H3
          go_wp2_with fail
          go_ret
          exact ⟨rfl, HN.out, HF.out, HB.out⟩


def prettydoc_Flat.f (k : Nat) (a0_0 : Int) (a0_1 : ByteArray) (a0_2 : Int) (l0_3 : List S25) : Option (ByteArray × Bool) := (prettydoc_Right.f k a0_0 a0_1 a0_2 l0_3).bind fun e => (if e = 0 then ((prettydoc_Flat_1.f k a0_0 a0_1 l0_3 []).bind fun m => (if m.1 = true then some (⟨m.2.toArray⟩, true) else some (⟨#[]⟩, false))) else some (⟨#[]⟩, false))
theorem prettydoc_Flat.mono : ∀ a0 a1 a2 a3 k, LeO (prettydoc_Flat.f k a0 a1 a2 a3) (prettydoc_Flat.f (k + 1) a0 a1 a2 a3) := by
  intro a0 a1 a2 a3 k
  obtain ⟨ih0, ih1⟩ := prettydoc_Flat_1.mono_l k
  unfold prettydoc_Flat.f
  exact LeO.bind (prettydoc_Right.mono _ _ _ _ _) (fun _ => LeO.ite (LeO.bind (ih0 _ _ _ _) (fun _ => LeO.refl _)) (LeO.refl _))
set_option maxHeartbeats 2000000 in
set_option maxRecDepth 100000 in
theorem prettydoc_Flat.calls (k : Nat) (a0_0 : Int) (a0_1 : ByteArray) (a0_2 : Int) (A0_3 : Option Addr) (c0_3 : Nat) (l0_3 : List S25) (r1 : ByteArray) (r2 : Bool) (w : World) (hr0_3 : Kd.C k25 w A0_3 l0_3.length l0_3) (hc0_3 : l0_3.length ≤ c0_3) (h : prettydoc_Flat.f k a0_0 a0_1 a0_2 l0_3 = some (r1, r2)) :
    Calls Try.prog 19 #[.agg #[.int .i64 a0_0, .string a0_1, .int .i64 a0_2, .slice A0_3 l0_3.length c0_3]] w fun e w' => e = .returned (.tuple #[.string r1, .bool r2]) ∧ Below w.heap.size w w' := by
  obtain ⟨e1, h1, h⟩ := Option.bind_eq_some_iff.mp h
  have H1 := Aside0.mk h1
  have HR := Aside0.mk hr0_3
  have HC := Aside0.mk hc0_3
  clear h1 hr0_3 hc0_3
  have hu25 := Try.underlying25
  by_cases t0 : e1 = 0
  · rw [if_pos t0] at h
    obtain ⟨⟨m1, m2⟩, h2, h3⟩ := Option.bind_eq_some_iff.mp h
    have H2 := Aside0.mk h2
    have H3 := Aside0.mk h3
    have b0 : (e1 != 0) = false := bne_eq_false_iff_eq.mpr t0
    clear h h2 h3 t0
    go_enter Try.func19, Try.ntmps19
    go_wp2_with fail
    refine (prettydoc_Right.calls k a0_0 a0_1 a0_2 A0_3 c0_3 l0_3 e1 _ (Kd.C_alloc HR.out _) HC.out H1.out).mono ?_
    rintro e w1 ⟨rfl, hb⟩
    have HB := Aside0.mk ((below_alloc (Below.refl w.heap.size w) (.cells #[.int .i64 a0_0, .string a0_1, .int .i64 a0_2, .slice A0_3 l0_3.length c0_3] 25)).trans (hb.mono (by simp)))
    have HX := Aside0.mk (blk_below (blk_alloc_at (w := w) (o := .cells #[.int .i64 a0_0, .string a0_1, .int .i64 a0_2, .slice A0_3 l0_3.length c0_3] 25) rfl) hb)
    have hx0 : w1.cell? ⟨w.heap.size, 0, none⟩ = some (.int .i64 a0_0) := (blk_cell HX.out 0).trans rfl
    have hx1 : w1.cell? ⟨w.heap.size, 1, none⟩ = some (.string a0_1) := (blk_cell HX.out 1).trans rfl
    have hx2 : w1.cell? ⟨w.heap.size, 2, none⟩ = some (.int .i64 a0_2) := (blk_cell HX.out 2).trans rfl
    have hx3 : w1.cell? ⟨w.heap.size, 3, none⟩ = some (.slice A0_3 l0_3.length c0_3) := (blk_cell HX.out 3).trans rfl
    have lt := blk_lt HX.out
    clear hb
    go_wp2_with fail
    refine (flat1_calls w1 w1.heap.size (w1.heap.size + 1) (Nat.le_refl _) (by omega) (by omega) k a0_0 a0_1 a0_2 A0_3 c0_3 l0_3 [] m1 m2 _ ?hn ?hf (Kd.C_below HR.out HB.out) HC.out (below_alloc (below_alloc (Below.refl _ _) _) _) H2.out).mono ?_
    case hn => exact builder_alloc (.inl ⟨Nat.le_refl _, .slice none 0 0, blk_alloc_at rfl, World.ownsRow_nil _ _ _ _, by simp [Value.ownBlock]⟩) _
    case hf => exact blk_alloc_at (by simp)
    rintro e w2 ⟨rfl, hn2, hf2, hb2⟩
    have HN2 := Aside0.mk hn2
    have HB2 := Aside0.mk (below_step HB.out hb2)
    have HW2 := Aside0.mk hb2.size
    clear hn2 hf2 hb2 hx0 hx1 hx2 hx3 lt HX
    cases m1 with
    | true =>
      have h4 : (⟨m2.toArray⟩, true) = (r1, r2) := by have := H3.out; simpa using this
      injection h4 with h5 h6
      subst h5 h6
      clear H3
      go_wp2_with fail
      refine (Try.Builder_String_any w1.heap.size w1.heap.size m2 w2 HN2.out HW2.out).mono ?_
      rintro e w3 ⟨rfl, hb3⟩
      have HB3 := Aside0.mk (HB2.out.trans (hb3.mono HB.out.size))
      clear hb3
      go_wp2_with fail
      go_ret2
      exact ⟨rfl, HB3.out⟩
    | false =>
      have h4 : ((⟨#[]⟩ : ByteArray), false) = (r1, r2) := by have := H3.out; simpa using this
      injection h4 with h5 h6
      subst h5 h6
      clear H3
      go_wp2_with fail
      go_ret2
      exact ⟨rfl, HB2.out⟩
  · rw [if_neg t0] at h
    injection h with h
    injection h with h2 h3
    subst h2 h3
    have b0 : (e1 != 0) = true := bne_iff_ne.mpr t0
    clear t0
    go_enter Try.func19, Try.ntmps19
    go_wp2_with fail
    refine (prettydoc_Right.calls k a0_0 a0_1 a0_2 A0_3 c0_3 l0_3 e1 _ (Kd.C_alloc HR.out _) HC.out H1.out).mono ?_
    rintro e w1 ⟨rfl, hb⟩
    have HB := Aside0.mk ((below_alloc (Below.refl w.heap.size w) (.cells #[.int .i64 a0_0, .string a0_1, .int .i64 a0_2, .slice A0_3 l0_3.length c0_3] 25)).trans (hb.mono (by simp)))
    clear hb
    go_wp2_with fail
    go_ret2
    exact ⟨rfl, HB.out⟩


end Go.Proofs.Ytcmhffjcicolcaa.PA
