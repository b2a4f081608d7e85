/- The ordered sort at runes: Sort leaves the row sorted, as a plain insertion sort would. -/
import Derived.Test.YtomccgpachmpbaaSo7
namespace Go.Proofs.YtomccgpachmpbaaSo
open Go.RowKit Go.Sort Go.Proofs
set_option linter.unusedVariables false

theorem insertion_none (w : World) : Calls Try.prog 69 #[.slice none 0 0, .int .i64 0, .int .i64 0] w fun e w' => e = .returned (.tuple #[]) ∧ w' = w := by
  go_enter Try.func69, Try.ntmps69
  go_wp2
  go_loopg [6] 0 (fun k s6 wr => s6 = .int .i64 1 ∧ wr = w)
  case atStart => exact ⟨by go_num, rfl⟩
  case round =>
    obtain ⟨rfl, rfl⟩ := hrel
    go_wp2
    go_end0
    exact ⟨rfl, rfl⟩
set_option maxHeartbeats 1000000 in
set_option maxRecDepth 100000 in
theorem pdqs_none (l : Int) (w : World) : Calls Try.prog 55 #[.slice none 0 0, .int .i64 0, .int .i64 0, .int .i64 l] w fun e w' => e = .returned (.tuple #[]) ∧ w' = w := by
  go_enter Try.func55, Try.ntmps55
  go_wp2
  go_loopg [1, 2] 0 (fun k s1 s2 wr => s1 = .int .i64 0 ∧ s2 = .int .i64 0 ∧ wr = w)
  case atStart => exact ⟨rfl, rfl, rfl⟩
  case round =>
    obtain ⟨rfl, rfl, rfl⟩ := hrel
    go_wp2_with (go_at_call 69; refine (insertion_none _).mono ?_; rintro e w1 ⟨rfl, rfl⟩)
    (try simp only [Exit.inBlock, Exit.then]); refine bodyPost_ret (results_none rfl _ _ _) rfl ?_
    exact ⟨rfl, rfl⟩
theorem sort_none (w : World) : Calls Try.prog 40 #[.slice none 0 0] w fun e w' => e = .returned (.tuple #[]) ∧ w' = w := by
  go_enter Try.func40, Try.ntmps40
  have q := Try.bits_Len 0 w (by decide) (by decide)
  generalize ((Lib.bitLen (Int.toNat 0) : Nat) : Int) = l at q
  go_wp2_with (first | (go_at_call 52; refine q.mono ?_; rintro e w1 ⟨rfl, rfl⟩) | (go_at_call 55; refine (pdqs_none _ _).mono ?_; rintro e w1 ⟨rfl, rfl⟩))
  go_end0
  exact ⟨rfl, rfl⟩

theorem sort_row {w0 : World} {blk off N : Nat} (cap : Nat) (d : Array Int) (w : World) (H : St w0 blk off N w d) (hN : N < 4611686018427387904) :
    Calls Try.prog 40 #[.slice (some ⟨blk, off, none⟩) N cap] w fun e w' => e = .returned (.tuple #[]) ∧ ∃ d', St w0 blk off N w' d' ∧ PermIn 0 N d d' ∧ SortedIn ltInt 0 N d' := by
  have q := Try.bits_Len N w (by omega) (by omega)
  have hl : Lib.bitLen (Int.toNat (N : Int)) < 4611686018427387904 := by
    rw [Int.toNat_natCast]
    have := Lib.bitLen_le N 64 (by omega) (by omega)
    omega
  have p := fun W (h : St w0 blk off N W d) => pdqs cap hN (N + 1) 0 N (Lib.bitLen (Int.toNat (N : Int))) d W (by omega) h (Nat.zero_le _) (Nat.le_refl _) hl (.inl rfl)
  replace p : Hid _ := p
  replace H : Hid (St w0 blk off N w d) := H
  generalize Lib.bitLen (Int.toNat (N : Int)) = l at q p
  clear hl
  have hcl : IntKind.u64.wrap (N : Int) = N := by simp [IntKind.wrap, IntKind.bits, IntKind.signed]; omega
  go_enter Try.func40, Try.ntmps40
  go_wp2_with (first | (go_at_call 52; refine q.mono ?_; rintro e w1 ⟨rfl, rfl⟩) | (go_at_call 55; refine (p.out _ H.out).mono ?_; rintro e w2 ⟨rfl, d', H2, P2, S2⟩))
  go_end0
  exact ⟨rfl, d', H2, P2, S2⟩
end Go.Proofs.YtomccgpachmpbaaSo
