/- The ordered sort at runes: insertionSortOrdered gives the plain insertion sort of the row; reverseRangeOrdered a permutation of its range. -/
import Derived.Test.YtomccgpachmpbaaSo0
namespace Go.Proofs.YtomccgpachmpbaaSo
open Go.RowKit Go.Sort Go.Proofs
set_option linter.unusedVariables false

/-! ### the plain insertion sort, one step at a time -/
theorem ins_in {a j : Nat} {d : Array Int} (h : a < j) (hl : ltInt (el d j) (el d (j - 1)) = true) : insInner ltInt a j d = insInner ltInt a (j - 1) (swp d j (j - 1)) := by
  cases j with
  | zero => omega
  | succ k =>
    unfold el at hl
    rw [insInner, if_pos (by simp only [Nat.add_sub_cancel] at hl; simp [hl]; omega)]
    rfl
theorem ins_out {a j : Nat} {d : Array Int} (h : ¬ a < j ∨ ltInt (el d j) (el d (j - 1)) = false) : insInner ltInt a j d = d := by
  cases j with
  | zero => rw [insInner]
  | succ k =>
    unfold el at h
    rw [insInner, if_neg]
    simp only [Nat.add_sub_cancel] at h
    rcases h with h | h
    · simp; omega
    · simp [h]

set_option maxHeartbeats 1000000 in
theorem insertion {w0 : World} {blk off N : Nat} (cap a b : Nat) (d : Array Int) (w : World) (H : St w0 blk off N w d) (hab : a ≤ b) (hb : b ≤ N) (hN : N < 4611686018427387904) :
    Calls Try.prog 69 #[.slice (some ⟨blk, off, none⟩) N cap, .int .i64 a, .int .i64 b] w fun e w' => e = .returned (.tuple #[]) ∧ St w0 blk off N w' (insertionSort ltInt d a b) := by
  go_enter Try.func69, Try.ntmps69
  go_wp2
  go_loopw [6] (fun vi wr => ∃ (i : Nat) (x : Array Int), vi = .int .i64 i ∧ a < i ∧ i ≤ b + 1 ∧ St w0 blk off N wr x ∧ insOuter ltInt a b i x = insertionSort ltInt d a b) (fun vi _ => b + 1 - (num vi).toNat)
  case atStart => exact ⟨a + 1, d, by go_num, by omega, by omega, H, rfl⟩
  case round =>
    obtain ⟨i, x, rfl, hai, hib, HS, HO⟩ := hrel
    replace HS : Hid (St w0 blk off N wr x) := HS
    replace HO : Hid (insOuter ltInt a b i x = insertionSort ltInt d a b) := HO
    clear H
    by_cases hlt : i < b
    · go_wp2
      go_loopw [7] (fun vj wr => ∃ (j : Nat) (y : Array Int), vj = .int .i64 j ∧ a ≤ j ∧ j ≤ i ∧ St w0 blk off N wr y ∧ insInner ltInt a j y = insInner ltInt a i x) (fun vj _ => (num vj).toNat)
      case atStart => exact ⟨i, x, rfl, by omega, Nat.le_refl _, HS.out, rfl⟩
      case round =>
        clear HS
        obtain ⟨j, y, rfl, haj, hji, HS, HI⟩ := hrel
        have hc := HS.cell
        have hf := HS.frozen
        replace HS : Hid (St w0 blk off N wr y) := HS
        replace HI : Hid (insInner ltInt a j y = insInner ltInt a i x) := HI
        have stop : (¬ a < j ∨ ltInt (el y j) (el y (j - 1)) = false) → ∀ q, ∃ (i' : Nat) (x' : Array Int), Value.int .i64 ((i : Int) + 1) = .int .i64 i' ∧ a < i' ∧ i' ≤ b + 1 ∧ St w0 blk off N (wr.drewN q) x' ∧ insOuter ltInt a b i' x' = insertionSort ltInt d a b :=
          fun h q => ⟨i + 1, y, by go_num, by omega, by omega, HS.out.drewN q, by rw [← HO.out, ← ins_out h, HI.out]; exact (by rw [insOuter, if_pos hlt] : insOuter ltInt a b i x = _).symm⟩
        replace stop : Hid _ := stop
        go_wp2
        by_cases haj' : a < j
        · go_quiet (first | (go_at_call 75; refine Calls.quiet_of_same (less _ _ _)))
          go_wp2
          · have hl : ltInt (el y j) (el y (j - 1)) = true := by assumption
            go_region
            all_goals go_wp2
            go_roundw
            case rel => exact ⟨j - 1, swp y j (j - 1), by congr 1; omega, by omega, by omega, (HS.out.drewN (nq + 1)).swap (by omega) (by omega), by rw [← HI.out, ins_in haj' hl]⟩
            case measure => simp [num]; omega
          · have hl : ltInt (el y j) (el y (j - 1)) = false := by assumption
            go_roundw
            case rel => exact stop.out (.inr hl) nq
            case measure => simp [num]; omega
        · go_quiet (first | (go_at_call 75; refine Calls.quiet_of_same (less _ _ _)))
          go_wp2
          go_roundw
          case rel => exact stop.out (.inl haj') nq
          case measure => simp [num]; omega
    · go_wp2
      go_end0
      refine ⟨rfl, ?_⟩
      rw [← HO.out, insOuter, if_neg hlt]
      exact HS.out

set_option maxHeartbeats 1000000 in
theorem reverse {w0 : World} {blk off N : Nat} (cap a b : Nat) (d : Array Int) (w : World) (H : St w0 blk off N w d) (hab : a ≤ b) (hb : b ≤ N) (hN : N < 4611686018427387904) :
    Calls Try.prog 73 #[.slice (some ⟨blk, off, none⟩) N cap, .int .i64 a, .int .i64 b] w fun e w' => e = .returned (.tuple #[]) ∧ ∃ d', St w0 blk off N w' d' ∧ PermIn a b d d' := by
  go_enter Try.func73, Try.ntmps73
  go_wp2
  go_loopg [6, 7] (b - a) (fun k s6 s7 wr => ∃ (i : Nat) (j : Int) (x : Array Int), s6 = .int .i64 i ∧ s7 = .int .i64 j ∧ a ≤ i ∧ i ≤ b ∧ j < b ∧ j - i < k ∧ -1 ≤ j ∧ St w0 blk off N wr x ∧ PermIn a b d x)
  case atStart => exact ⟨a, (b : Int) - 1, d, rfl, rfl, Nat.le_refl _, hab, by omega, by omega, by omega, H, permIn_refl _ _ _⟩
  case round =>
    obtain ⟨i, j, x, rfl, rfl, hai, hib, hjb, hk, hj1, HS, HP⟩ := hrel
    by_cases hlt : (i : Int) < j
    · obtain ⟨m, rfl⟩ : ∃ m : Nat, j = m := ⟨j.toNat, by omega⟩
      have hlt' : i < m := by omega
      have hci := HS.cell i (by omega)
      have hcm := HS.cell m (by omega)
      have hfi := HS.frozen i (by omega)
      have hfm := HS.frozen m (by omega)
      replace HS : Hid (St w0 blk off N wr x) := HS
      replace HP : Hid (PermIn a b d x) := HP
      clear H
      go_wp2_with fail
      go_region
      go_wp2
      go_roundg (gk - 1)
      case measure => omega
      case rel => exact ⟨i + 1, (m : Int) - 1, swp x i m, by go_num, rfl, by omega, by omega, by omega, by omega, by omega, (HS.out.swap (by omega) (by omega)).drew, permIn_trans _ _ _ a b HP.out (swp_permIn _ _ _ _ _ (by omega) (by omega) (by omega) (by omega) (by have := HS.out.size; omega))⟩
    · go_wp2
      go_end0
      exact ⟨rfl, x, HS, HP⟩
end Go.Proofs.YtomccgpachmpbaaSo
