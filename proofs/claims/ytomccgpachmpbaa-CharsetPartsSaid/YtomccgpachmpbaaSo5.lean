/- The ordered sort at runes: choosePivotOrdered answers a place of its range and writes nothing of the row. -/
import Derived.Test.YtomccgpachmpbaaSo0
import Derived.Deep.CutBlock
namespace Go.Proofs.YtomccgpachmpbaaSo
open Go.RowKit Go.Sort Go.Proofs
set_option linter.unusedVariables false

/-- A number of at most m in a block of its own. -/
def Cnt (w : World) (p m : Nat) : Prop := ∃ s : Int, 0 ≤ s ∧ s ≤ m ∧ w.cell? ⟨p, 0, none⟩ = some (.int .i64 s) ∧ w.frozen? ⟨p, 0, none⟩ = false
theorem Cnt.drewN {w : World} {p m : Nat} (h : Cnt w p m) (n : Nat) : Cnt (w.drewN n) p m := h
theorem Cnt.up {w : World} {p m n : Nat} (h : Cnt w p m) (hmn : m ≤ n) : Cnt w p n := by
  obtain ⟨s, h0, h1, h2⟩ := h
  exact ⟨s, h0, by omega, h2⟩

set_option maxHeartbeats 1000000 in
theorem order2 {w0 : World} {blk off N : Nat} (cap a b p m : Nat) (d : Array Int) (w : World) (H : St w0 blk off N w d) (hp : w0.heap.size ≤ p) (C : Cnt w p m) (ha : a < N) (hb : b < N) (hm : m < 1000) (hN : N < 4611686018427387904) :
    Calls Try.prog 87 #[.slice (some ⟨blk, off, none⟩) N cap, .int .i64 a, .int .i64 b, .pointer (some ⟨p, 0, none⟩)] w fun e w' => (∃ u v : Nat, e = .returned (.tuple #[.int .i64 u, .int .i64 v]) ∧ ((u = a ∧ v = b) ∨ (u = b ∧ v = a))) ∧ St w0 blk off N w' d ∧ Cnt w' p (m + 1) := by
  have hcell := H.cell
  obtain ⟨s, hs0, hs1, hcs, hfs⟩ := id C
  replace C : Hid (Cnt w p m) := C
  replace H : Hid (St w0 blk off N w d) := H
  replace hp : Hid (w0.heap.size ≤ p) := hp
  go_enter Try.func87, Try.ntmps87
  go_upto_region 1 with fail
  go_big_quiet (first | (go_at_call 75; refine Calls.quiet_of_same (less _ _ _)))
  go_wp2
  · go_ret2
    refine ⟨⟨b, a, rfl, .inr ⟨rfl, rfl⟩⟩, (H.out.drewN nq).beside p hp.out _, s + 1, by omega, by omega, ?_, ?_⟩
    · exact World.cell?_setCell_same _ _ _ hcs
    · rw [setCell_eq, frozen?_mapBlock]; exact hfs
  · go_ret2
    exact ⟨⟨a, b, rfl, .inl ⟨rfl, rfl⟩⟩, H.out.drewN nq, C.out.up (by omega)⟩

set_option maxHeartbeats 1000000 in
theorem median {w0 : World} {blk off N : Nat} (cap a b c p m : Nat) (d : Array Int) (w : World) (H : St w0 blk off N w d) (hp : w0.heap.size ≤ p) (C : Cnt w p m) (ha : a < N) (hb : b < N) (hc : c < N) (hm : m < 900) (hN : N < 4611686018427387904) :
    Calls Try.prog 85 #[.slice (some ⟨blk, off, none⟩) N cap, .int .i64 a, .int .i64 b, .int .i64 c, .pointer (some ⟨p, 0, none⟩)] w fun e w' => (∃ u : Nat, e = .returned (.int .i64 u) ∧ (u = a ∨ u = b ∨ u = c)) ∧ St w0 blk off N w' d ∧ Cnt w' p (m + 3) := by
  have q := order2 cap a b p m d w H hp C ha hb (by omega) hN
  have q2 : ∀ (x y k : Nat) (W : World), St w0 blk off N W d → Cnt W p k → x < N → y < N → k < 1000 → _ := fun x y k W h1 h2 h3 h4 h5 => order2 cap x y p k d W h1 hp h2 h3 h4 h5 hN
  clear H C
  go_enter Try.func85, Try.ntmps85
  go_upto_region 1 with fail
  go_cut [1, 2] from 11 (fun s1 s2 wx => ∃ u v : Nat, s1 = .int .i64 u ∧ s2 = .int .i64 v ∧ ((u = a ∧ v = b) ∨ (u = b ∧ v = a)) ∧ St w0 blk off N wx d ∧ Cnt wx p (m + 1))
  case first =>
    go_wp2_with (go_at_call 87; refine q.mono ?_; rintro e w' ⟨⟨u, v, rfl, huv⟩, H1, C1⟩)
    go_meet
    exact ⟨u, v, rfl, rfl, huv, H1, C1⟩
  case rest =>
    obtain ⟨u, v, rfl, rfl, huv, H1, C1⟩ := hcut
    have hu : u < N ∧ v < N := by omega
    have q := q2 v c (m + 1) wc H1 C1 hu.2 hc (by omega)
    clear H1 C1
    go_upto_region 2 with fail
    go_cut [2, 3] from 11 (fun s2 s3 wx => ∃ x y : Nat, s2 = .int .i64 x ∧ s3 = .int .i64 y ∧ ((x = v ∧ y = c) ∨ (x = c ∧ y = v)) ∧ St w0 blk off N wx d ∧ Cnt wx p (m + 1 + 1))
    case first =>
      go_wp2_with (go_at_call 87; refine q.mono ?_; rintro e w' ⟨⟨x, y, rfl, hxy⟩, H1, C1⟩)
      go_meet
      exact ⟨x, y, rfl, rfl, hxy, H1, C1⟩
    case rest =>
      obtain ⟨x, y, rfl, rfl, hxy, H1, C1⟩ := hcut
      have hx : x < N ∧ y < N := by omega
      have q := q2 u x (m + 1 + 1) wc H1 C1 hu.1 hx.1 (by omega)
      clear H1 C1
      go_upto_region 3 with fail
      go_cut [2] from 11 (fun s2 wx => ∃ z : Nat, s2 = .int .i64 z ∧ (z = u ∨ z = x) ∧ St w0 blk off N wx d ∧ Cnt wx p (m + 1 + 1 + 1))
      case first =>
        go_wp2_with (go_at_call 87; refine q.mono ?_; rintro e w' ⟨⟨z, t, rfl, hz⟩, H1, C1⟩)
        go_meet
        exact ⟨t, rfl, by omega, H1, C1⟩
      case rest =>
        obtain ⟨z, rfl, hz, H1, C1⟩ := hcut
        have hz' : z = a ∨ z = b ∨ z = c := by omega
        clear hz hxy huv hu hx
        go_wp2
        go_ret
        exact ⟨⟨z, rfl, hz'⟩, H1, C1⟩

set_option maxHeartbeats 1000000 in
theorem adjacent {w0 : World} {blk off N : Nat} (cap a p m : Nat) (d : Array Int) (w : World) (H : St w0 blk off N w d) (hp : w0.heap.size ≤ p) (C : Cnt w p m) (ha0 : 0 < a) (ha : a + 1 < N) (hm : m < 900) (hN : N < 4611686018427387904) :
    Calls Try.prog 84 #[.slice (some ⟨blk, off, none⟩) N cap, .int .i64 a, .pointer (some ⟨p, 0, none⟩)] w fun e w' => (∃ u : Nat, e = .returned (.int .i64 u) ∧ a ≤ u + 1 ∧ u ≤ a + 1) ∧ St w0 blk off N w' d ∧ Cnt w' p (m + 3) := by
  have q := median cap (a - 1) a (a + 1) p m d w H hp C (by omega) (by omega) ha hm hN
  rw [show ((a - 1 : Nat) : Int) = (a : Int) - 1 by omega, show ((a + 1 : Nat) : Int) = (a : Int) + 1 by omega] at q
  clear H C
  go_enter Try.func84, Try.ntmps84
  go_wp2_with (go_at_call 85; refine q.mono ?_; rintro e w' ⟨⟨u, rfl, hu⟩, H1, C1⟩)
  go_ret
  exact ⟨⟨u, rfl, by omega, by omega⟩, H1, C1⟩

set_option maxHeartbeats 1000000 in
set_option maxRecDepth 100000 in
theorem choose {w0 : World} {blk off N : Nat} (cap a b : Nat) (d : Array Int) (w : World) (H : St w0 blk off N w d) (hab : a < b) (hb : b ≤ N) (hN : N < 4611686018427387904) :
    Calls Try.prog 72 #[.slice (some ⟨blk, off, none⟩) N cap, .int .i64 a, .int .i64 b] w fun e w' => (∃ (u : Nat) (h : Int), e = .returned (.tuple #[.int .i64 u, .int .i64 h]) ∧ a ≤ u ∧ u < b) ∧ St w0 blk off N w' d := by
  replace H : Hid (St w0 blk off N w d) := H
  go_enter Try.func72, Try.ntmps72
  go_upto_region 1 with fail
  go_cut [8] from 13 (fun s8 wx => ∃ l : Nat, s8 = .int .i64 l ∧ l = b - a ∧ St w0 blk off N wx d)
  case first =>
    go_wp2_with fail
    go_meet
    exact ⟨b - a, by go_num, rfl, H.out⟩
  case rest =>
    clear H
    obtain ⟨l, rfl, hl, H⟩ := hcut
    obtain ⟨h1, rfl⟩ : 0 < l ∧ b = a + l := by omega
    clear hl hab
    replace H : Hid (St w0 blk off N wc d) := H
    go_upto_region 2 with fail
    go_cut [9] from 13 (fun s9 wx => ∃ p : Nat, s9 = .pointer (some ⟨p, 0, none⟩) ∧ w0.heap.size ≤ p ∧ St w0 blk off N wx d ∧ Cnt wx p 0)
    case first =>
      have hle := H.out.less
      go_wp2_with fail
      go_meet
      exact ⟨wc.heap.size, rfl, hle, H.out.alloc _, 0, Int.le_refl _, Int.le_refl _, by rw [World.cell?_alloc_new]; rfl, World.frozen?_alloc_at _ _ _ _ rfl⟩
    case rest =>
      clear H
      obtain ⟨p, rfl, hp, H, C⟩ := hcut
      replace hp : Hid (w0.heap.size ≤ p) := hp
      replace H : Hid (St w0 blk off N wc d) := H
      replace C : Hid (Cnt wc p 0) := C
      go_upto_region 3 with fail
      go_cut [10] from 13 (fun s10 wx => ∃ i : Nat, s10 = .int .i64 i ∧ i = a + l / 4 * 1 ∧ wx = wc)
      case first =>
        go_wp2_with fail
        go_meet
        exact ⟨_, by go_num, rfl, rfl⟩
      case rest =>
        obtain ⟨i, rfl, hi, rfl⟩ := hcut
        replace hi : Hid (i = a + l / 4 * 1) := hi
        go_upto_region 4 with fail
        go_cut [11] from 13 (fun s11 wx => ∃ j : Nat, s11 = .int .i64 j ∧ j = a + l / 4 * 2 ∧ wx = wc)
        case first =>
          go_wp2_with fail
          go_meet
          exact ⟨_, by go_num, rfl, rfl⟩
        case rest =>
          obtain ⟨j, rfl, hj, rfl⟩ := hcut
          replace hj : Hid (j = a + l / 4 * 2) := hj
          go_upto_region 5 with fail
          go_cut [12] from 13 (fun s12 wx => ∃ k : Nat, s12 = .int .i64 k ∧ k = a + l / 4 * 3 ∧ wx = wc)
          case first =>
            go_wp2_with fail
            go_meet
            exact ⟨_, by go_num, rfl, rfl⟩
          case rest =>
            obtain ⟨k, rfl, hk, rfl⟩ := hcut
            have hi := hi.out
            have hj := hj.out
            have r1 : a ≤ i ∧ a ≤ j ∧ a ≤ k ∧ i < a + l ∧ j < a + l ∧ k < a + l := by omega
            have r2 : 8 ≤ l → a < i ∧ a < j ∧ a < k ∧ i + 1 < a + l ∧ j + 1 < a + l ∧ k + 1 < a + l := by omega
            clear hi hj hk
            go_upto_if 32 with fail
            go_cut [11] from 13 (fun s11 wx => ∃ u : Nat, s11 = .int .i64 u ∧ a ≤ u ∧ u < a + l ∧ St w0 blk off N wx d ∧ Cnt wx p 12)
            case first =>
              by_cases h8 : 8 ≤ l
              · replace r2 := r2 h8
                have h8z : (l : Int) ≥ 8 := by omega
                go_upto_if 34 with fail
                go_cut [10, 11, 12] from 13 (fun s10 s11 s12 wx => ∃ x y z : Nat, s10 = .int .i64 x ∧ s11 = .int .i64 y ∧ s12 = .int .i64 z ∧ (a ≤ x ∧ x < a + l) ∧ (a ≤ y ∧ y < a + l) ∧ (a ≤ z ∧ z < a + l) ∧ St w0 blk off N wx d ∧ Cnt wx p 9)
                case first =>
                  by_cases h50 : 50 ≤ l
                  · have h50z : (l : Int) ≥ 50 := by omega
                    have q1 := adjacent cap i p 0 d wc H.out hp.out C.out (by omega) (by omega) (by omega) hN
                    clear H C
                    go_upto_region 8 with fail
                    go_cut [10] from 13 (fun s10 wx => ∃ x : Nat, s10 = .int .i64 x ∧ (a ≤ x ∧ x < a + l) ∧ St w0 blk off N wx d ∧ Cnt wx p 3)
                    case first =>
                      go_wp2_with (go_at_call 84; refine q1.mono ?_; rintro e w' ⟨⟨x, rfl, hx⟩, H1, C1⟩)
                      go_meet
                      exact ⟨x, rfl, by omega, H1, C1⟩
                    case rest =>
                      clear q1
                      obtain ⟨x, rfl, hx, H, C⟩ := hcut
                      have q2 := adjacent cap j p 3 d wc H hp.out C (by omega) (by omega) (by omega) hN
                      clear H C
                      go_upto_region 9 with fail
                      go_cut [11] from 13 (fun s11 wx => ∃ y : Nat, s11 = .int .i64 y ∧ (a ≤ y ∧ y < a + l) ∧ St w0 blk off N wx d ∧ Cnt wx p 6)
                      case first =>
                        go_wp2_with (go_at_call 84; refine q2.mono ?_; rintro e w' ⟨⟨y, rfl, hy⟩, H1, C1⟩)
                        go_meet
                        exact ⟨y, rfl, by omega, H1, C1⟩
                      case rest =>
                        clear q2
                        obtain ⟨y, rfl, hy, H, C⟩ := hcut
                        have q3 := adjacent cap k p 6 d wc H hp.out C (by omega) (by omega) (by omega) hN
                        clear H C
                        go_wp2_with (go_at_call 84; refine q3.mono ?_; rintro e w' ⟨⟨z, rfl, hz⟩, H1, C1⟩)
                        go_meet
                        exact ⟨x, y, z, rfl, rfl, rfl, hx, hy, by omega, H1, C1⟩
                  · have h50z : ¬ (l : Int) ≥ 50 := by omega
                    go_wp2_with fail
                    go_meet
                    exact ⟨i, j, k, rfl, rfl, rfl, by omega, by omega, by omega, H.out, C.out.up (by omega)⟩
                case rest =>
                  clear H C r1 r2
                  obtain ⟨x, y, z, rfl, rfl, rfl, hx, hy, hz, H, C⟩ := hcut
                  have q := median cap x y z p 9 d wc H hp.out C (by omega) (by omega) (by omega) (by omega) hN
                  go_wp2_with (go_at_call 85; refine q.mono ?_; rintro e w' ⟨⟨u, rfl, hu⟩, H1, C1⟩)
                  go_meet
                  exact ⟨u, rfl, by omega, by omega, H1, C1⟩
              · have h8z : ¬ (l : Int) ≥ 8 := by omega
                go_wp2_with fail
                go_meet
                exact ⟨j, rfl, by omega, by omega, H.out, C.out.up (by omega)⟩
            case rest =>
              clear H C r1 r2
              obtain ⟨u, rfl, hu1, hu2, H, s, hs0, hs1, hcs, hfs⟩ := hcut
              replace H : Hid (St w0 blk off N wc d) := H
              go_wp2
              all_goals go_ret2
              all_goals exact ⟨⟨u, _, rfl, hu1, hu2⟩, H.out⟩
end Go.Proofs.YtomccgpachmpbaaSo
