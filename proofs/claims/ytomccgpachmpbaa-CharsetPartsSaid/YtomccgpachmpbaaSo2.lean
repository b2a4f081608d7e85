/- The ordered sort at runes: siftDownOrdered and heapSortOrdered give the plain heap sort of the row. -/
import Derived.Test.YtomccgpachmpbaaSo0
import Derived.Deep.CutBlock
namespace Go.Proofs.YtomccgpachmpbaaSo
open Go.RowKit Go.Sort Go.Proofs
set_option linter.unusedVariables false

/-! ### the plain sift, by the child that it takes -/
/-- Is there a right child, and is it the greater? (c: the left one.) -/
def right (x : Array Int) (hi F c : Nat) : Bool := decide (c + 1 < hi) && ltInt (el x (F + c)) (el x (F + c + 1))
theorem sift_end {hi F root : Nat} {x : Array Int} (h : hi ≤ 2 * root + 1) : siftDown ltInt hi F root x = x := by rw [siftDown, dif_pos h]
theorem sift_at {hi F root c : Nat} {x : Array Int} (h : ¬ hi ≤ 2 * root + 1) (hc : c = if right x hi F (2 * root + 1) = true then 2 * root + 1 + 1 else 2 * root + 1) :
    c < hi ∧ siftDown ltInt hi F root x = if ltInt (el x (F + root)) (el x (F + c)) = true then siftDown ltInt hi F c (swp x (F + root) (F + c)) else x := by
  subst hc
  rw [siftDown, dif_neg h]
  unfold right el
  by_cases hr : (decide (2 * root + 1 + 1 < hi) && ltInt x[F + (2 * root + 1)]! x[F + (2 * root + 1) + 1]!) = true
  · have h2 : 2 * root + 1 + 1 < hi := by simp at hr; exact hr.1
    rw [if_pos hr, if_pos hr, show 2 * root + 2 = 2 * root + 1 + 1 from rfl]
    refine ⟨h2, ?_⟩
    by_cases hl : ltInt x[F + root]! x[F + (2 * root + 1 + 1)]! = true
    · simp [hl, h2]
    · simp [hl]
  · rw [if_neg hr, if_neg hr]
    refine ⟨by omega, ?_⟩
    by_cases hl : ltInt x[F + root]! x[F + (2 * root + 1)]! = true
    · simp [hl]
    · simp [hl]

set_option maxHeartbeats 1000000 in
theorem sift {w0 : World} {blk off N : Nat} (cap lo hi F : Nat) (d : Array Int) (w : World) (H : St w0 blk off N w d) (hlo : lo ≤ hi) (hb : F + hi ≤ N) (hN : N < 4611686018427387904) :
    Calls Try.prog 83 #[.slice (some ⟨blk, off, none⟩) N cap, .int .i64 lo, .int .i64 hi, .int .i64 F] w fun e w' => e = .returned (.tuple #[]) ∧ St w0 blk off N w' (siftDown ltInt hi F lo d) := by
  go_enter Try.func83, Try.ntmps83
  go_wp2
  go_loopg [8] (hi - lo) (fun k s8 wr => ∃ (root : Nat) (x : Array Int), s8 = .int .i64 root ∧ root ≤ hi ∧ hi - root ≤ k ∧ St w0 blk off N wr x ∧ siftDown ltInt hi F root x = siftDown ltInt hi F lo d)
  case atStart => exact ⟨lo, d, rfl, hlo, Nat.le_refl _, H, rfl⟩
  case round =>
    obtain ⟨root, x, rfl, hr, hk, HS, HE⟩ := hrel
    replace HS : Hid (St w0 blk off N wr x) := HS
    replace HE : Hid (siftDown ltInt hi F root x = siftDown ltInt hi F lo d) := HE
    clear H
    go_upto_region 1 with fail
    go_cut [9] from 11 to 75 (fun s9 wx => ∃ c : Nat, s9 = .int .i64 c ∧ c = 2 * root + 1 ∧ St w0 blk off N wx x)
    case first =>
      go_wp2_with fail
      go_meet
      exact ⟨2 * root + 1, by go_num, rfl, HS.out⟩
    case rest =>
      clear HS
      obtain ⟨c, rfl, hc, HS⟩ := hcut
      have hcell := HS.cell
      have hrc : root < c := by omega
      replace hc : Hid (c = 2 * root + 1) := hc
      replace HS : Hid (St w0 blk off N wc x) := HS
      by_cases h0 : hi ≤ c
      · have h0z : (hi : Int) ≤ (c : Int) := by omega
        go_wp2
        go_end0
        refine ⟨rfl, ?_⟩
        rw [← HE.out, sift_end (by have := hc.out; omega)]
        exact HS.out
      · have h0z : ¬ (hi : Int) ≤ (c : Int) := by omega
        go_upto_region 3 with fail
        go_cut [36] from 11 to 75 (fun s36 wx => s36 = .bool (right x hi F c) ∧ St w0 blk off N wx x)
        case first =>
          by_cases h1 : c + 1 < hi
          · have h1z : (c : Int) + 1 < (hi : Int) := by omega
            go_big_quiet (first | (go_at_call 75; refine Calls.quiet_of_same (less _ _ _)))
            go_wp2_with fail
            go_meet
            exact ⟨by simp [right, h1], HS.out.drewN _⟩
          · have h1z : decide ((c : Int) + 1 < (hi : Int)) = false := decide_eq_false (by omega)
            go_big_quiet (first | (go_at_call 75; refine Calls.quiet_of_same (less _ _ _)))
            go_wp2_with fail
            go_meet
            exact ⟨by simp [right, h1], HS.out.drewN _⟩
        case rest =>
          clear hcell HS
          obtain ⟨rfl, HS⟩ := hcut
          replace HS : Hid (St w0 blk off N wc x) := HS
          go_upto_if 36 with fail
          go_cut [9] from 11 to 75 (fun s9 wx => ∃ m : Nat, s9 = .int .i64 m ∧ (m = if right x hi F c = true then c + 1 else c) ∧ St w0 blk off N wx x)
          case first =>
            cases hb2 : right x hi F c
            · go_wp2_with fail
              go_meet
              exact ⟨c, rfl, by simp [hb2], HS.out⟩
            · go_wp2_with fail
              go_meet
              exact ⟨c + 1, by go_num, by simp [hb2], HS.out⟩
          case rest =>
            clear HS
            obtain ⟨m, rfl, hm, HS⟩ := hcut
            have hrm : root < m := by rw [hm]; split <;> omega
            rw [hc.out] at hm
            obtain ⟨hmh, he⟩ := sift_at (x := x) (F := F) (by have := hc.out; omega) hm
            replace he : Hid (siftDown ltInt hi F root x = if ltInt (el x (F + root)) (el x (F + m)) = true then siftDown ltInt hi F m (swp x (F + root) (F + m)) else x) := he
            have hcell := HS.cell
            replace HS : Hid (St w0 blk off N wc x) := HS
            clear hm hc
            go_upto_region 5 with fail
            go_big_quiet (first | (go_at_call 75; refine Calls.quiet_of_same (less _ _ _)))
            clear hcell
            replace HS : Hid (St w0 blk off N (wc.drewN nq) x) := HS.out.drewN nq
            generalize wc.drewN nq = wd at HS ⊢
            have hcell := HS.out.cell
            have hfroz := HS.out.frozen
            go_wp2_with fail
            · have hl : (!ltInt (el x (F + root)) (el x (F + m))) = true := by assumption
              (try simp only [Exit.inBlock, Exit.then]); refine bodyPost_ret (results_none rfl _ _ _) rfl ?_
              refine ⟨rfl, ?_⟩
              rw [← HE.out, he.out, if_neg (by intro h; rw [h] at hl; cases hl)]
              exact HS.out
            · have hl : (!ltInt (el x (F + root)) (el x (F + m))) = false := by assumption
              go_region
              go_wp2
              go_roundg (hi - m)
              case measure => omega
              case rel => exact ⟨m, swp x (F + root) (F + m), by go_num, by omega, Nat.le_refl _, (HS.out.swap (by omega) (by omega)).drew, by rw [← HE.out, he.out, if_pos (by revert hl; cases ltInt (el x (F + root)) (el x (F + m)) <;> simp)]⟩

/-- Half of what is left, as Go's division gives it. -/
theorem half (n : Nat) : ((n : Int) - 1).tdiv 2 = (((n - 1) / 2 + 1 : Nat) : Int) - 1 := by
  cases n with
  | zero => rfl
  | succ m => rw [Int.tdiv_eq_ediv_of_nonneg (by omega)]; omega

set_option maxHeartbeats 1000000 in
theorem heap {w0 : World} {blk off N : Nat} (cap a b : Nat) (d : Array Int) (w : World) (H : St w0 blk off N w d) (hab : a ≤ b) (hb : b ≤ N) (hN : N < 4611686018427387904) :
    Calls Try.prog 70 #[.slice (some ⟨blk, off, none⟩) N cap, .int .i64 a, .int .i64 b] w fun e w' => e = .returned (.tuple #[]) ∧ St w0 blk off N w' (heapSort ltInt d a b) := by
  go_enter Try.func70, Try.ntmps70
  go_upto_region 2 with fail
  go_cut [8] from 14 to 14 (fun s8 wx => ∃ n : Nat, s8 = .int .i64 n ∧ n = b - a ∧ wx = w)
  case first =>
    go_wp2_with fail
    go_meet
    exact ⟨b - a, by go_num, rfl, rfl⟩
  case rest =>
    obtain ⟨n, rfl, hn, rfl⟩ := hcut
    have hbn : a + n ≤ N := by omega
    have goal : heapSort ltInt d a b = heapPop ltInt a n (heapBuild ltInt n a ((n - 1) / 2 + 1) d) := by rw [hn]; rfl
    replace goal : Hid (heapSort ltInt d a b = heapPop ltInt a n (heapBuild ltInt n a ((n - 1) / 2 + 1) d)) := goal
    clear hn hab hb
    go_wp2
    go_loopg [9] ((n - 1) / 2 + 1) (fun k s9 wr => ∃ x : Array Int, s9 = .int .i64 ((k : Int) - 1) ∧ k ≤ (n - 1) / 2 + 1 ∧ St w0 blk off N wr x ∧ heapBuild ltInt n a k x = heapBuild ltInt n a ((n - 1) / 2 + 1) d)
    case atStart => exact ⟨d, by rw [half], Nat.le_refl _, H, rfl⟩
    case round =>
      clear H
      obtain ⟨x, rfl, hk, HS, HE⟩ := hrel
      replace HS : Hid (St w0 blk off N wr x) := HS
      replace HE : Hid (heapBuild ltInt n a gk x = heapBuild ltInt n a ((n - 1) / 2 + 1) d) := HE
      cases gk with
      | zero =>
        go_wp2
        go_loopg [10] n (fun k s10 wr => ∃ y : Array Int, s10 = .int .i64 ((k : Int) - 1) ∧ k ≤ n ∧ St w0 blk off N wr y ∧ heapPop ltInt a k y = heapPop ltInt a n x)
        case atStart => exact ⟨x, rfl, Nat.le_refl _, HS.out, rfl⟩
        case round =>
          clear HS
          obtain ⟨y, rfl, hk2, HS, HP⟩ := hrel
          have hcell := HS.cell
          have hfroz := HS.frozen
          replace HS : Hid (St w0 blk off N wr y) := HS
          replace HP : Hid (heapPop ltInt a gk y = heapPop ltInt a n x) := HP
          cases gk with
          | zero =>
            go_wp2
            go_end0
            refine ⟨rfl, ?_⟩
            rw [goal.out, ← HE.out, show heapBuild ltInt n a 0 x = x from rfl, ← HP.out]
            exact HS.out
          | succ k =>
            have next : ∀ W, St w0 blk off N W (swp y a (a + k)) → Calls Try.prog 83 #[.slice (some ⟨blk, off, none⟩) N cap, .int .i64 0, .int .i64 k, .int .i64 a] W fun e w' => e = .returned (.tuple #[]) ∧ St w0 blk off N w' (siftDown ltInt k a 0 (swp y a (a + k))) :=
              fun W hW => sift cap 0 k a _ W hW (Nat.zero_le _) (by omega) hN
            replace next : Hid _ := next
            rcases Nat.eq_zero_or_pos k with hk0 | hkp
            · subst hk0
              go_wp2_with fail
              go_region
              go_wp2_with (go_at_call 83; refine (next.out _ ((HS.out.swap (i := a) (j := a + 0) (by omega) (by omega)).drew)).mono ?_; rintro e w1 ⟨rfl, HS1⟩)
              go_roundg 0
              case measure => omega
              case rel => exact ⟨_, by go_num, by omega, HS1, HP.out⟩
            · go_wp2_with fail
              go_region
              go_wp2_with (go_at_call 83; refine (next.out _ ((HS.out.swap (i := a) (j := a + k) (by omega) (by omega)).drew)).mono ?_; rintro e w1 ⟨rfl, HS1⟩)
              go_roundg k
              case measure => omega
              case rel => exact ⟨_, by go_num, by omega, HS1, HP.out⟩
      | succ k =>
        have next := sift cap k n a x wr HS.out (by omega) (by omega) hN
        go_wp2_with (go_at_call 83; refine next.mono ?_; rintro e w1 ⟨rfl, HS1⟩)
        go_roundg k
        case measure => omega
        case rel => exact ⟨_, by go_num, by omega, HS1, HE.out⟩
end Go.Proofs.YtomccgpachmpbaaSo
