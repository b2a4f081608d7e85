/- The ordered sort at runes: breakPatternsOrdered permutes its range. -/
import Derived.Test.YtomccgpachmpbaaSo0
import Derived.Test.YtomccgpachmpbaaShelf
import Derived.Deep.CutBlock
namespace Go.Proofs.YtomccgpachmpbaaSo
open Go.RowKit Go.Sort Go.Proofs
set_option linter.unusedVariables false

/-- The generator's state, in a block of its own. -/
def Rnd (w : World) (p : Nat) : Prop := ∃ X : Nat, X < 18446744073709551616 ∧ w.cell? ⟨p, 0, none⟩ = some (.int .u64 (X : Int)) ∧ w.frozen? ⟨p, 0, none⟩ = false
theorem Rnd.drewN {w : World} {p : Nat} (h : Rnd w p) (n : Nat) : Rnd (w.drewN n) p := h
theorem Rnd.drew {w : World} {p : Nat} (h : Rnd w p) : Rnd w.drew p := h
theorem Rnd.set {w : World} {p : Nat} (h : Rnd w p) {blk i : Nat} (hb : blk ≠ p) (v : Value) : Rnd (w.setCell ⟨blk, i, none⟩ v) p := by
  obtain ⟨X, hX, h1, h2⟩ := h
  refine ⟨X, hX, ?_, ?_⟩
  · rw [World.cell?_setCell_other _ _ _ _ (by intro e; injection e with e; exact hb e)]
    exact h1
  · rw [setCell_eq, frozen?_mapBlock]; exact h2
/-- One draw of the generator. -/
theorem next {w0 : World} {blk off N : Nat} (p : Nat) (d : Array Int) (w : World) (H : St w0 blk off N w d) (hp : w0.heap.size ≤ p) (R : Rnd w p) :
    Calls Try.prog 80 #[.pointer (some ⟨p, 0, none⟩)] w fun e w' => (∃ Y : Nat, Y < 18446744073709551616 ∧ e = .returned (.int .u64 Y)) ∧ St w0 blk off N w' d ∧ Rnd w' p := by
  obtain ⟨X, hX, h1, h2⟩ := R
  refine (AnyF.xorshift_Next (P := Try.prog) (ρ := Try.sortRg_ren) { Try.sortRg with } p 0 X hX w h1 h2).mono ?_
  rintro e w' ⟨rfl, rfl⟩
  refine ⟨⟨_, xorNextN_lt X hX, rfl⟩, (H.beside p hp _).drewN 3, Rnd.drewN ⟨_, xorNextN_lt X hX, World.cell?_setCell_same _ _ _ h1, ?_⟩ 3⟩
  rw [setCell_eq, frozen?_mapBlock]; exact h2

set_option maxHeartbeats 2000000 in
set_option maxRecDepth 100000 in
theorem break_ {w0 : World} {blk off N : Nat} (cap a b : Nat) (d : Array Int) (w : World) (H : St w0 blk off N w d) (hab : a ≤ b) (hb : b ≤ N) (hN : N < 4611686018427387904) :
    Calls Try.prog 71 #[.slice (some ⟨blk, off, none⟩) N cap, .int .i64 a, .int .i64 b] w fun e w' => e = .returned (.tuple #[]) ∧ ∃ d', St w0 blk off N w' d' ∧ PermIn a b d d' := by
  replace H : Hid (St w0 blk off N w d) := H
  go_enter Try.func71, Try.ntmps71
  go_upto_region 0 with fail
  go_cut [6] from 11 (fun s6 wx => ∃ l : Nat, s6 = .int .i64 l ∧ l = b - a ∧ St w0 blk off N wx d)
  case first =>
    go_wp2_with fail
    go_meet
    exact ⟨b - a, by go_num, rfl, H.out⟩
  case rest =>
    clear H
    obtain ⟨l, rfl, hl, H⟩ := hcut
    obtain rfl : b = a + l := by omega
    clear hl hab
    by_cases h8 : 8 ≤ l
    · have h8z : (l : Int) ≥ 8 := by omega
      have hle := H.less
      have hcl : IntKind.u64.wrap (l : Int) = l := by simp [IntKind.wrap, IntKind.bits, IntKind.signed]; omega
      replace H : Hid (St w0 blk off N wc d) := H
      go_upto_region 2 with fail
      go_cut [7] from 11 (fun s7 wx => ∃ p : Nat, s7 = .pointer (some ⟨p, 0, none⟩) ∧ w0.heap.size ≤ p ∧ St w0 blk off N wx d ∧ Rnd wx p)
      case first =>
        go_wp2_with fail
        go_meet
        refine ⟨wc.heap.size, rfl, hle, by first | exact H.out.alloc _ | exact (H.out.alloc _).beside _ hle _, l, by omega, ?_, ?_⟩
        · rw [World.cell?_alloc_new]; rfl
        · exact World.frozen?_alloc_at _ _ _ _ rfl
      case rest =>
        clear H hcl hle
        obtain ⟨p, rfl, hp, H, R⟩ := hcut
        have hpb : blk ≠ p := by have := H.old; omega
        have nx := fun (x : Array Int) W (h1 : St w0 blk off N W x) (h2 : Rnd W p) => next p x W h1 hp h2
        replace hp : Hid (w0.heap.size ≤ p) := hp
        replace hpb : Hid (blk ≠ p) := hpb
        replace nx : Hid _ := nx
        have hM1 : 1 ≤ 1 <<< bitsLen l := by rw [Nat.one_shiftLeft]; exact Nat.two_pow_pos _
        have hM2 : 1 <<< bitsLen l ≤ 2 * l := by rw [Nat.one_shiftLeft]; exact two_pow_bitsLen_le (by omega)
        have np := AnyF.nextPowerOfTwo (P := Try.prog) (ρ := Try.sortRg_ren) { Try.sortRg with } l (by omega) wc
        generalize 1 <<< bitsLen l = M at hM1 hM2 np
        replace H : Hid (St w0 blk off N wc d) := H
        replace R : Hid (Rnd wc p) := R
        go_upto_region 3 with fail
        go_cut [8] from 11 (fun s8 wx => s8 = .int .u64 (M : Int) ∧ wx = wc)
        case first =>
          go_wp2_with (go_at_call 79; refine Calls.mono np ?_; rintro e w' ⟨rfl, rfl⟩)
          go_meet
          exact ⟨rfl, rfl⟩
        case rest =>
          clear np
          obtain ⟨rfl, rfl⟩ := hcut
          go_wp2
          go_loopg [9] 3 (fun k s9 wr => ∃ (x : Nat) (y : Array Int), s9 = .int .i64 x ∧ x + k = a + l / 4 * 2 + 2 ∧ k ≤ 3 ∧ St w0 blk off N wr y ∧ Rnd wr p ∧ PermIn a (a + l) d y)
          case atStart => exact ⟨a + l / 4 * 2 - 1, d, by congr 1; omega, by omega, Nat.le_refl _, H.out, R.out, permIn_refl _ _ _⟩
          case round =>
            clear H R
            obtain ⟨x, y, rfl, hx, hk, H, R, HP⟩ := hrel
            have nx1 := nx.out y wr H R
            replace HP : Hid (PermIn a (a + l) d y) := HP
            cases gk with
            | zero =>
              clear nx1
              go_wp2
              go_end0
              exact ⟨rfl, y, H, HP.out⟩
            | succ k =>
              clear H R
              have hxl : a ≤ x ∧ x < a + l := by omega
              have hxz : (x : Int) ≤ (a : Int) + (l : Int) / 4 * 2 + 1 := by omega
              have land : ∀ Y : Nat, Y < 18446744073709551616 → ∃ o : Nat, bits .and .u64 (Y : Int) ((M : Int) - 1) = (o : Int) ∧ o < 2 * l := fun Y hY =>
                ⟨Y &&& (M - 1), by rw [show ((M : Int) - 1) = ((M - 1 : Nat) : Int) by omega]; exact bits_and_u64_nat _ _ hY (by omega), Nat.lt_of_le_of_lt Nat.and_le_right (by omega)⟩
              replace land : Hid _ := land
              go_upto_region 7 with fail
              go_cut [10] from 26 to 64 (fun s10 wx => ∃ o : Nat, s10 = .int .i64 o ∧ o < 2 * l ∧ St w0 blk off N wx y ∧ Rnd wx p)
              case first =>
                go_wp2_with (go_at_call 80; refine nx1.mono ?_; rintro e w' ⟨⟨Y, hY, rfl⟩, H, R⟩; obtain ⟨o, ho, hol⟩ := land.out Y hY; replace H : Hid (St w0 blk off N w' y) := H; replace R : Hid (Rnd w' p) := R)
                go_meet
                exact ⟨o, rfl, hol, H.out, R.out⟩
              case rest =>
                clear nx1 land
                obtain ⟨o, rfl, ho, H, R⟩ := hcut
                replace H : Hid (St w0 blk off N wc y) := H
                replace R : Hid (Rnd wc p) := R
                go_upto_if 43 with fail
                go_cut [10] from 26 to 64 (fun s10 wx => ∃ o : Nat, s10 = .int .i64 o ∧ o < l ∧ wx = wc)
                case first =>
                  by_cases hol : o ≥ l
                  · have holz : (o : Int) ≥ (l : Int) := by omega
                    go_wp2_with fail
                    go_meet
                    exact ⟨o - l, by go_num, by omega, rfl⟩
                  · have holz : ¬ (o : Int) ≥ (l : Int) := by omega
                    go_wp2_with fail
                    go_meet
                    exact ⟨o, rfl, by omega, rfl⟩
                case rest =>
                  clear ho
                  obtain ⟨o, rfl, ho, rfl⟩ := hcut
                  have hc1 := H.out.cell x (by omega)
                  have hc2 := H.out.cell (a + o) (by omega)
                  have hf1 := H.out.frozen x (by omega)
                  have hf2 := H.out.frozen (a + o) (by omega)
                  obtain ⟨v', hy'⟩ := cell?_setCell_some (w := wc) (p := ⟨blk, off + x, none⟩) (x := .int .i32 (el y (a + o))) (q := ⟨blk, off + (a + o), none⟩) hc2
                  go_wp2_with fail
                  go_region
                  go_wp2
                  go_roundg k
                  case measure => omega
                  case rel => exact ⟨x + 1, swp y x (a + o), by go_num, by omega, by omega, (H.out.swap (by omega) (by omega)).drew, ((R.out.set hpb.out _).set hpb.out _).drew, permIn_trans _ _ _ _ _ HP.out (swp_permIn _ _ _ _ _ hxl.1 hxl.2 (by omega) (by omega) (by have := H.out.size; omega))⟩
    · have h8z : ¬ (l : Int) ≥ 8 := by omega
      go_wp2
      go_end0
      exact ⟨rfl, d, H, permIn_refl _ _ _⟩
end Go.Proofs.YtomccgpachmpbaaSo
