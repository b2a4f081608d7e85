/- The ordered sort at runes: partialInsertionSortOrdered gives the plain partial insertion sort of the row. -/
import Derived.Test.YtomccgpachmpbaaSo0
import Derived.Deep.CutBlock
namespace Go.Proofs.YtomccgpachmpbaaSo
open Go.RowKit Go.Sort Go.Proofs
set_option linter.unusedVariables false

theorem scan_on {x : Array Int} {b i : Nat} (h : i < b) (hl : ltInt (el x i) (el x (i - 1)) = false) : scanSorted ltInt x b (i + 1) = scanSorted ltInt x b i := by
  unfold el at hl
  rw [scanSorted.eq_def ltInt x b i, if_pos (by simp [h, hl])]
theorem scan_out {x : Array Int} {b i : Nat} (h : ¬ i < b ∨ ltInt (el x i) (el x (i - 1)) = true) : i = scanSorted ltInt x b i := by
  unfold el at h
  rw [scanSorted, if_neg (by rcases h with h | h <;> simp [h])]
theorem sd_on {x : Array Int} {j : Nat} (h : 1 ≤ j) (hl : ltInt (el x j) (el x (j - 1)) = true) : shiftDown ltInt (j - 1) (swp x j (j - 1)) = shiftDown ltInt j x := by
  unfold el at hl
  cases j with
  | zero => omega
  | succ k => simp only [Nat.add_sub_cancel] at hl; rw [shiftDown.eq_def ltInt (k + 1) x]; simp [hl]
theorem sd_out {x : Array Int} {j : Nat} (h : ¬ 1 ≤ j ∨ ltInt (el x j) (el x (j - 1)) = false) : x = shiftDown ltInt j x := by
  unfold el at h
  cases j with
  | zero => rfl
  | succ k =>
    rcases h with h | h
    · omega
    · simp only [Nat.add_sub_cancel] at h; rw [shiftDown.eq_def ltInt (k + 1) x]; simp [h]
theorem su_on {x : Array Int} {b j : Nat} (h : j < b) (hl : ltInt (el x j) (el x (j - 1)) = true) : shiftUp ltInt b (j + 1) (swp x j (j - 1)) = shiftUp ltInt b j x := by
  unfold el at hl
  rw [shiftUp.eq_def ltInt b j x, if_pos h, hl]
  rfl
theorem su_out {x : Array Int} {b j : Nat} (h : ¬ j < b ∨ ltInt (el x j) (el x (j - 1)) = false) : x = shiftUp ltInt b j x := by
  unfold el at h
  rw [shiftUp]
  rcases h with h | h
  · rw [if_neg h]
  · by_cases h2 : j < b
    · rw [if_pos h2, h]; rfl
    · rw [if_neg h2]

set_option maxHeartbeats 4000000 in
set_option maxRecDepth 100000 in
theorem partialI {w0 : World} {blk off N : Nat} (cap a b : Nat) (d : Array Int) (w : World) (H : St w0 blk off N w d) (hab : a < b) (hb : b ≤ N) (hN : N < 4611686018427387904) :
    Calls Try.prog 74 #[.slice (some ⟨blk, off, none⟩) N cap, .int .i64 a, .int .i64 b] w fun e w' => e = .returned (.bool (partialInsertionSort ltInt d a b).2) ∧ St w0 blk off N w' (partialInsertionSort ltInt d a b).1 := by
  replace H : Hid (St w0 blk off N w d) := H
  go_enter Try.func74, Try.ntmps74
  go_wp2
  go_loopg [7, 8] 5 (fun k s7 s8 wr => ∃ (i : Nat) (x : Array Int), s7 = .int .i64 i ∧ s8 = .int .i64 (5 - (k : Int)) ∧ k ≤ 5 ∧ a < i ∧ i ≤ b ∧ St w0 blk off N wr x ∧ partialIns ltInt a b k i x = partialInsertionSort ltInt d a b)
  case atStart => exact ⟨a + 1, d, by go_num, rfl, Nat.le_refl _, by omega, by omega, H.out, rfl⟩
  case round =>
    clear H
    obtain ⟨i, x, rfl, rfl, hk5, hai, hib, HS, HE⟩ := hrel
    replace HS : Hid (St w0 blk off N wr x) := HS
    replace HE : Hid (partialIns ltInt a b gk i x = partialInsertionSort ltInt d a b) := HE
    cases gk with
    | zero =>
      go_wp2
      go_ret
      rw [← HE.out]
      exact ⟨rfl, HS.out⟩
    | succ k =>
      go_upto_block 2 with fail
      go_cut [7] from 13 to 132 (fun s7 wx => ∃ m : Nat, s7 = .int .i64 m ∧ a < m ∧ m ≤ b ∧ m = scanSorted ltInt x b i ∧ St w0 blk off N wx x)
      case first =>
        go_wp2_with fail
        go_loopg [7] (b - i) (fun k s7 wx => ∃ m : Nat, s7 = .int .i64 m ∧ a < m ∧ m ≤ b ∧ b - m ≤ k ∧ St w0 blk off N wx x ∧ scanSorted ltInt x b m = scanSorted ltInt x b i)
        case atStart => exact ⟨i, rfl, hai, hib, Nat.le_refl _, HS.out, rfl⟩
        case round =>
          clear HS
          obtain ⟨m, rfl, ham, hmb, hk, HS, HU⟩ := hrel
          have hcell := HS.cell
          replace HS : Hid (St w0 blk off N wr x) := HS
          replace HU : Hid (scanSorted ltInt x b m = scanSorted ltInt x b i) := HU
          by_cases hlt : m < b
          · have hltz : (m : Int) < (b : Int) := by omega
            go_upto_region 5 with fail
            go_big_quiet (first | (go_at_call 75; refine Calls.quiet_of_same (less _ _ _)))
            go_wp2
            · have ht : (!ltInt (el x m) (el x (m - 1))) = true := by assumption
              go_roundg (b - (m + 1))
              case measure => omega
              case rel => exact ⟨m + 1, by go_num, by omega, by omega, Nat.le_refl _, HS.out.drewN _, by rw [← HU.out]; exact scan_on hlt (by simpa using ht)⟩
            · have ht : (!ltInt (el x m) (el x (m - 1))) = false := by assumption
              go_meet
              exact ⟨m, rfl, ham, hmb, by rw [← HU.out]; exact scan_out (.inr (by simpa using ht)), HS.out.drewN _⟩
          · have hltz : decide ((m : Int) < (b : Int)) = false := decide_eq_false (by omega)
            go_upto_region 5 with fail
            go_big_quiet (first | (go_at_call 75; refine Calls.quiet_of_same (less _ _ _)))
            go_wp2
            go_meet
            exact ⟨m, rfl, ham, hmb, by rw [← HU.out]; exact scan_out (.inl hlt), HS.out.drewN _⟩
      case rest =>
        clear HS
        obtain ⟨m, rfl, ham, hmb, hm, HS⟩ := hcut
        have he := partialIns_succ (lt := ltInt) a b k i x
        rw [HE.out, ← hm] at he
        clear HE hm hai hib
        by_cases hmb' : m = b
        · rw [if_pos hmb'] at he
          replace he : Hid (partialInsertionSort ltInt d a b = (x, true)) := he
          replace HS : Hid (St w0 blk off N wc x) := HS
          have hmz : (m : Int) = (b : Int) := by omega
          go_wp2
          go_ret
          rw [he.out]
          exact ⟨rfl, HS.out⟩
        · rw [if_neg hmb'] at he
          have hlt : m < b := by omega
          clear hmb hmb'
          by_cases h50 : b - a < 50
          · rw [if_pos h50] at he
            replace he : Hid (partialInsertionSort ltInt d a b = (x, false)) := he
            replace HS : Hid (St w0 blk off N wc x) := HS
            have h50z : (b : Int) - (a : Int) < 50 := by omega
            go_wp2
            go_ret
            rw [he.out]
            exact ⟨rfl, HS.out⟩
          · rw [if_neg h50] at he
            have h50z : ¬ (b : Int) - (a : Int) < 50 := by omega
            have hcell := HS.cell
            have hfroz := HS.frozen
            replace HS : Hid (St w0 blk off N wc x) := HS
            replace he : Hid (partialInsertionSort ltInt d a b = partialIns ltInt a b k m (fixUp ltInt b m (fixDown ltInt a m (swp x m (m - 1))))) := he
            go_upto_region 11 with fail
            go_region
            clear hcell hfroz
            go_upto_if 61 with fail
            replace HS : Hid (St w0 blk off N _ (swp x m (m - 1))) := (HS.out.swap (i := m) (j := m - 1) (by omega) (by omega)).drew
            go_cut [] from 13 to 132 (fun wx => St w0 blk off N wx (fixDown ltInt a m (swp x m (m - 1))))
            case first =>
              by_cases h2 : m - a ≥ 2
              · have h2z : (m : Int) - (a : Int) ≥ 2 := by omega
                go_wp2
                go_loopg [9] m (fun k s9 wx => ∃ (j : Nat) (y : Array Int), s9 = .int .i64 j ∧ j < m ∧ j ≤ k ∧ St w0 blk off N wx y ∧ shiftDown ltInt j y = fixDown ltInt a m (swp x m (m - 1)))
                case atStart => exact ⟨m - 1, _, by go_num, by omega, by omega, HS.out, by unfold fixDown; rw [if_pos h2]⟩
                case round =>
                  clear HS
                  obtain ⟨j, y, rfl, hjm, hk, HS, HU⟩ := hrel
                  have hcell := HS.cell
                  have hfroz := HS.frozen
                  replace HS : Hid (St w0 blk off N wr y) := HS
                  replace HU : Hid (shiftDown ltInt j y = fixDown ltInt a m (swp x m (m - 1))) := HU
                  by_cases hj : 1 ≤ j
                  · go_upto_region 16 with fail
                    go_big_quiet (first | (go_at_call 75; refine Calls.quiet_of_same (less _ _ _)))
                    go_wp2
                    · have ht : (!ltInt (el y j) (el y (j - 1))) = true := by assumption
                      go_meet
                      rw [← HU.out, ← sd_out (.inr (by simpa using ht))]
                      exact HS.out.drewN _
                    · have ht : (!ltInt (el y j) (el y (j - 1))) = false := by assumption
                      go_region
                      all_goals go_wp2
                      go_roundg (j - 1)
                      case measure => omega
                      case rel => exact ⟨j - 1, swp y j (j - 1), by congr 1; omega, by omega, Nat.le_refl _, (HS.out.drewN (nq + 1)).swap (by omega) (by omega), by rw [← HU.out]; exact sd_on hj (by simpa using ht)⟩
                  · go_wp2
                    go_meet
                    rw [← HU.out, ← sd_out (.inl hj)]
                    exact HS.out
              · have h2z : ¬ (m : Int) - (a : Int) ≥ 2 := by omega
                go_wp2
                go_meet
                unfold fixDown
                rw [if_neg h2]
                exact HS.out
            case rest =>
              clear HS
              have HS := hcut
              clear hcut
              obtain ⟨z, hz⟩ : ∃ z, z = fixDown ltInt a m (swp x m (m - 1)) := ⟨_, rfl⟩
              rw [← hz] at HS he
              clear hz
              replace HS : Hid (St w0 blk off N wc z) := HS
              by_cases h2 : b - m ≥ 2
              · have h2z : (b : Int) - (m : Int) ≥ 2 := by omega
                have hfx : fixUp ltInt b m z = shiftUp ltInt b (m + 1) z := by unfold fixUp; rw [if_pos h2]
                go_wp2
                go_loopg [10] b (fun k s10 wx => ∃ (j : Nat) (y : Array Int), s10 = .int .i64 j ∧ m < j ∧ j ≤ b ∧ b - j ≤ k ∧ St w0 blk off N wx y ∧ shiftUp ltInt b j y = fixUp ltInt b m z)
                case atStart => exact ⟨m + 1, z, by go_num, by omega, by omega, by omega, HS.out, hfx.symm⟩
                case round =>
                  clear HS hfx
                  obtain ⟨j, y, rfl, hmj, hjb, hk, HS, HU⟩ := hrel
                  have hcell := HS.cell
                  have hfroz := HS.frozen
                  replace HS : Hid (St w0 blk off N wr y) := HS
                  replace HU : Hid (shiftUp ltInt b j y = fixUp ltInt b m z) := HU
                  have stop : (¬ j < b ∨ ltInt (el y j) (el y (j - 1)) = false) → partialIns ltInt a b k m y = partialInsertionSort ltInt d a b := fun h => by rw [he.out, ← HU.out, ← su_out h]
                  replace stop : Hid _ := stop
                  by_cases hj : j < b
                  · go_upto_region 22 with fail
                    go_big_quiet (first | (go_at_call 75; refine Calls.quiet_of_same (less _ _ _)))
                    go_wp2
                    · have ht : (!ltInt (el y j) (el y (j - 1))) = true := by assumption
                      go_roundg k
                      case measure => omega
                      case rel => exact ⟨m, y, rfl, by congr 1; omega, by omega, by omega, by omega, HS.out.drewN _, stop.out (.inr (by simpa using ht))⟩
                    · have ht : (!ltInt (el y j) (el y (j - 1))) = false := by assumption
                      go_region
                      all_goals go_wp2
                      go_roundg (b - (j + 1))
                      case measure => omega
                      case rel => exact ⟨j + 1, swp y j (j - 1), by go_num, by omega, by omega, Nat.le_refl _, (HS.out.drewN (nq + 1)).swap (by omega) (by omega), by rw [← HU.out]; exact su_on hj (by simpa using ht)⟩
                  · go_wp2
                    go_roundg k
                    case measure => omega
                    case rel => exact ⟨m, y, rfl, by congr 1; omega, by omega, by omega, by omega, HS.out, stop.out (.inl hj)⟩
              · have h2z : ¬ (b : Int) - (m : Int) ≥ 2 := by omega
                have hfx : fixUp ltInt b m z = z := by unfold fixUp; rw [if_neg h2]
                go_wp2
                go_roundg k
                case measure => omega
                case rel => exact ⟨m, z, rfl, by congr 1; omega, by omega, by omega, by omega, HS.out, by rw [he.out, hfx]⟩
end Go.Proofs.YtomccgpachmpbaaSo
