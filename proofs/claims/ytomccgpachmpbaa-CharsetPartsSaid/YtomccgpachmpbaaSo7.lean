/- The ordered sort at runes: pdqsortOrdered makes of its range a sorted permutation, and so does Sort of the whole row. -/
import Derived.Test.YtomccgpachmpbaaSo1
import Derived.Test.YtomccgpachmpbaaSo2
import Derived.Test.YtomccgpachmpbaaSo3
import Derived.Test.YtomccgpachmpbaaSo4
import Derived.Test.YtomccgpachmpbaaSo5
import Derived.Test.YtomccgpachmpbaaSo6
namespace Go.Proofs.YtomccgpachmpbaaSo
open Go.RowKit Go.Sort Go.Proofs
set_option linter.unusedVariables false

/-- What is left to do: whoever sorts [a', b') of x has sorted [a, b) of d. -/
def Todo (a b : Nat) (d : Array Int) (a' b' : Nat) (x : Array Int) : Prop := ∀ R, PermIn a' b' x R → SortedIn ltInt a' b' R → PermIn a b d R ∧ SortedIn ltInt a b R
theorem Todo.perm {a b a' b' : Nat} {d x y : Array Int} (h : Todo a b d a' b' x) (hp : PermIn a' b' x y) : Todo a b d a' b' y :=
  fun R h1 h2 => h R (permIn_trans _ _ _ _ _ hp h1) h2
/-- A round's state. -/
structure Go_ (w0 : World) (blk off N a b : Nat) (d : Array Int) (a' b' : Nat) (w : World) (x : Array Int) : Prop where
  st : St w0 blk off N w x
  below : Sort.Below ltInt a' b' x
  todo : Todo a b d a' b' x
theorem Go_.perm {w0 w w' : World} {blk off N a b a' b' : Nat} {d x y : Array Int} (h : Go_ w0 blk off N a b d a' b' w x) (hb : b' ≤ N) (hs : St w0 blk off N w' y) (hp : PermIn a' b' x y) : Go_ w0 blk off N a b d a' b' w' y :=
  ⟨hs, Sort.Below.perm h.below (by rw [h.st.size]; exact hb) hp, h.todo.perm hp⟩

set_option maxHeartbeats 4000000 in
set_option maxRecDepth 100000 in
theorem pdqs {w0 : World} {blk off N : Nat} (cap : Nat) (hN : N < 4611686018427387904) : ∀ (n a b limit : Nat) (d : Array Int) (w : World), b - a < n → St w0 blk off N w d → a ≤ b → b ≤ N → limit < 4611686018427387904 → Sort.Below ltInt a b d →
    Calls Try.prog 55 #[.slice (some ⟨blk, off, none⟩) N cap, .int .i64 a, .int .i64 b, .int .i64 limit] w fun e w' => e = .returned (.tuple #[]) ∧ ∃ d', St w0 blk off N w' d' ∧ PermIn a b d d' ∧ SortedIn ltInt a b d' := by
  intro n
  induction n with
  | zero => intro a b limit d w h; omega
  | succ n ih =>
    intro a b limit d w hn H hab hb hlim hB
    replace ih : Hid (∀ (a b limit : Nat) (d : Array Int) (w : World), b - a < n → St w0 blk off N w d → a ≤ b → b ≤ N → limit < 4611686018427387904 → Sort.Below ltInt a b d →
      Calls Try.prog 55 #[.slice (some ⟨blk, off, none⟩) N cap, .int .i64 a, .int .i64 b, .int .i64 limit] w fun e w' => e = .returned (.tuple #[]) ∧ ∃ d', St w0 blk off N w' d' ∧ PermIn a b d d' ∧ SortedIn ltInt a b d') := ih
    replace H : Hid (St w0 blk off N w d) := H
    replace hB : Hid (Sort.Below ltInt a b d) := hB
    go_enter Try.func55, Try.ntmps55
    go_wp2
    go_loopg [1, 2, 3, 8, 9] (b - a) (fun k s1 s2 s3 s8 s9 wr => ∃ (a' b' lim : Nat) (wb wp : Bool) (x : Array Int), s1 = .int .i64 a' ∧ s2 = .int .i64 b' ∧ s3 = .int .i64 lim ∧ s8 = .bool wb ∧ s9 = .bool wp ∧
      a' ≤ b' ∧ b' ≤ N ∧ b' - a' ≤ k ∧ k ≤ b - a ∧ lim ≤ limit ∧ Go_ w0 blk off N a b d a' b' wr x)
    case atStart => exact ⟨a, b, limit, true, true, d, rfl, rfl, rfl, rfl, rfl, hab, hb, Nat.le_refl _, Nat.le_refl _, Nat.le_refl _, H.out, hB.out, fun R h1 h2 => ⟨h1, h2⟩⟩
    case round =>
      clear H hB
      obtain ⟨a', b', lim, wb, wp, x, rfl, rfl, rfl, rfl, rfl, hab', hb', hk, hkn, hlm, G⟩ := hrel
      have fin : ∀ (x R : Array Int) (W : World), Todo a b d a' b' x → PermIn a' b' x R → SortedIn ltInt a' b' R → St w0 blk off N W R → ∃ d', St w0 blk off N W d' ∧ PermIn a b d d' ∧ SortedIn ltInt a b d' :=
        fun x R W ht hp hs hst => ⟨R, hst, (ht R hp hs).1, (ht R hp hs).2⟩
      replace fin : Hid _ := fin
      by_cases h12 : b' - a' ≤ 12
      · have h12z : (b' : Int) - (a' : Int) ≤ 12 := by omega
        have q := insertion cap a' b' x wr G.st hab' hb' hN
        have s := insertionSort_holds (lt := ltInt) swo_ltInt x a' b' hab' (by rw [G.st.size]; exact hb')
        have td := G.todo
        clear G
        replace td : Hid _ := td
        replace s : Hid _ := s
        go_wp2_with (go_at_call 69; refine q.mono ?_; rintro e w1 ⟨rfl, H1⟩)
        (try simp only [Exit.inBlock, Exit.then]); refine bodyPost_ret (results_none rfl _ _ _) rfl ?_
        exact ⟨rfl, fin.out _ _ _ td.out s.out.1 s.out.2 H1⟩
      · have h12z : ¬ (b' : Int) - (a' : Int) ≤ 12 := by omega
        by_cases hl0 : lim = 0
        · subst hl0
          have q := heap cap a' b' x wr G.st hab' hb' hN
          have s := heapSort_holds (lt := ltInt) swo_ltInt x a' b' hab' (by rw [G.st.size]; exact hb')
          have td := G.todo
          clear G
          replace td : Hid _ := td
          replace s : Hid _ := s
          go_wp2_with (go_at_call 70; refine q.mono ?_; rintro e w1 ⟨rfl, H1⟩)
          (try simp only [Exit.inBlock, Exit.then]); refine bodyPost_ret (results_none rfl _ _ _) rfl ?_
          exact ⟨rfl, fin.out _ _ _ td.out s.out.1 s.out.2 H1⟩
        · have hl0z : ¬ (lim : Int) = 0 := by omega
          have hlt : a' < b' := by omega
          replace G : Hid (Go_ w0 blk off N a b d a' b' wr x) := G
          go_upto_if 35 with fail
          go_cut [3] from 19 (fun s3 wx => ∃ (l : Nat) (y : Array Int), s3 = .int .i64 l ∧ l ≤ limit ∧ Go_ w0 blk off N a b d a' b' wx y)
          case first =>
            cases wb
            · have q := break_ cap a' b' x wr G.out.st hab' hb' hN
              go_wp2_with (go_at_call 71; refine q.mono ?_; rintro e w1 ⟨rfl, y, H1, P1⟩; replace H1 : Hid (St w0 blk off N w1 y) := H1; replace P1 : Hid (PermIn a' b' x y) := P1)
              go_meet
              exact ⟨lim - 1, y, by congr 1; omega, by omega, G.out.perm hb' H1.out P1.out⟩
            · go_wp2_with fail
              go_meet
              exact ⟨lim, x, rfl, hlm, G.out⟩
          case rest =>
            clear G hl0 hl0z
            obtain ⟨l, y, rfl, hl, G⟩ := hcut
            have q := choose cap a' b' y wc G.st hlt hb' hN
            replace G : Hid (Go_ w0 blk off N a b d a' b' wc y) := G
            go_upto_region 10 with fail
            go_cut [11, 12] from 19 (fun s11 s12 wx => ∃ (u : Nat) (h : Int), s11 = .int .i64 u ∧ s12 = .int .i64 h ∧ a' ≤ u ∧ u < b' ∧ Go_ w0 blk off N a b d a' b' wx y)
            case first =>
              go_wp2_with (go_at_call 72; refine q.mono ?_; rintro e w1 ⟨⟨u, h, rfl, hu1, hu2⟩, H1⟩)
              go_meet
              exact ⟨u, h, rfl, rfl, hu1, hu2, G.out.perm hb' H1 (permIn_refl _ _ _)⟩
            case rest =>
              clear G q
              obtain ⟨u, h, rfl, rfl, hu1, hu2, G⟩ := hcut
              have q := reverse cap a' b' y wc G.st hab' hb' hN
              replace G : Hid (Go_ w0 blk off N a b d a' b' wc y) := G
              go_upto_if 50 with fail
              go_cut [11, 12] from 19 (fun s11 s12 wx => ∃ (v : Nat) (h : Int) (z : Array Int), s11 = .int .i64 v ∧ s12 = .int .i64 h ∧ a' ≤ v ∧ v < b' ∧ Go_ w0 blk off N a b d a' b' wx z)
              case first =>
                by_cases h2 : h = 2
                · subst h2
                  go_wp2_with (go_at_call 73; refine q.mono ?_; rintro e w1 ⟨rfl, z, H1, P1⟩; replace H1 : Hid (St w0 blk off N w1 z) := H1; replace P1 : Hid (PermIn a' b' y z) := P1)
                  go_meet
                  exact ⟨b' - 1 - (u - a'), 1, z, by congr 1; omega, rfl, by omega, by omega, G.out.perm hb' H1.out P1.out⟩
                · go_wp2_with fail
                  go_meet
                  exact ⟨u, h, y, rfl, rfl, hu1, hu2, G.out⟩
              case rest =>
                clear G q hu1 hu2
                obtain ⟨u, h, x, rfl, rfl, hu1, hu2, G⟩ := hcut
                replace G : Hid (Go_ w0 blk off N a b d a' b' wc x) := G
                go_upto_region 15 with fail
                go_cut [12, 68] from 19 (fun s12 s68 wx => ∃ c : Bool, s12 = .int .i64 h ∧ s68 = .bool c ∧ wx = wc)
                case first =>
                  cases wb <;> cases wp <;> by_cases h1 : h = 1 <;>
                    (go_wp2_with fail
                     go_meet
                     exact ⟨_, by first | rfl | rw [h1], rfl, rfl⟩)
                case rest =>
                  obtain ⟨c, rfl, rfl, rfl⟩ := hcut
                  go_upto_if 68 with fail
                  go_cut [] from 19 (fun wx => ∃ y : Array Int, Go_ w0 blk off N a b d a' b' wx y)
                  case first =>
                    cases c
                    · go_wp2_with fail
                      go_meet
                      exact ⟨x, G.out⟩
                    · have q := partialI cap a' b' x wc G.out.st hlt hb' hN
                      obtain ⟨s1, s2⟩ := partialInsertionSort_holds (lt := ltInt) swo_ltInt x a' b' hlt (by rw [G.out.st.size]; exact hb') G.out.below
                      generalize partialInsertionSort ltInt x a' b' = r at q s1 s2
                      obtain ⟨y, t⟩ := r
                      replace s1 : Hid (PermIn a' b' x y) := s1
                      have td := G.out.todo
                      replace td : Hid (Todo a b d a' b' x) := td
                      cases t
                      · clear s2
                        go_wp2_with (go_at_call 74; refine q.mono ?_; rintro e w1 ⟨rfl, H1⟩)
                        go_meet
                        exact ⟨y, G.out.perm hb' H1 s1.out⟩
                      · replace s2 := s2 rfl
                        replace s2 : Hid (SortedIn ltInt a' b' y) := s2
                        go_wp2_with (go_at_call 74; refine q.mono ?_; rintro e w1 ⟨rfl, H1⟩)
                        (try simp only [Exit.inBlock, Exit.then]); refine bodyPost_ret (results_none rfl _ _ _) rfl ?_
                        exact ⟨rfl, fin.out _ _ _ td.out s1.out s2.out H1⟩
                  case rest =>
                    clear G
                    obtain ⟨x, G⟩ := hcut
                    have hcell := G.st.cell
                    replace G : Hid (Go_ w0 blk off N a b d a' b' wc x) := G
                    go_upto_region 17 with fail
                    go_cut [87] from 19 (fun s87 wx => s87 = .bool (decide (0 < a') && !ltInt (el x (a' - 1)) (el x u)) ∧ Go_ w0 blk off N a b d a' b' wx x)
                    case first =>
                      by_cases ha0 : 0 < a'
                      · have ha0z : (a' : Int) > 0 := by omega
                        go_big_quiet (first | (go_at_call 75; refine Calls.quiet_of_same (less _ _ _)))
                        go_wp2_with fail
                        go_meet
                        exact ⟨by simp [ha0], G.out.perm hb' (G.out.st.drewN _) (permIn_refl _ _ _)⟩
                      · have ha0z : decide ((a' : Int) > 0) = false := decide_eq_false (by omega)
                        go_big_quiet (first | (go_at_call 75; refine Calls.quiet_of_same (less _ _ _)))
                        go_wp2_with fail
                        go_meet
                        exact ⟨by simp [ha0], G.out.perm hb' (G.out.st.drewN _) (permIn_refl _ _ _)⟩
                    case rest =>
                      clear hcell G
                      obtain ⟨rfl, G⟩ := hcut
                      have hxs : b' ≤ x.size := by rw [G.st.size]; exact hb'
                      cases h87 : (decide (0 < a') && !ltInt (el x (a' - 1)) (el x u))
                      · have q := part cap a' b' u x wc G.st hu1 hu2 hb' hN
                        obtain ⟨mid, ap, y, hx⟩ : ∃ mid ap y, partition ltInt x a' b' u = (mid, ap, y) := ⟨_, _, _, rfl⟩
                        obtain ⟨r1, r2, r3, r4, r5, r6, r7⟩ := round_part swo_ltInt (partition_holds ltInt) hu1 hu2 hxs G.below hx
                        rw [hx] at q
                        have td := G.todo
                        clear hx G h87
                        replace td : Hid (Todo a b d a' b' x) := td
                        replace r4 : Hid (Sort.Below ltInt a' mid y) := r4
                        replace r5 : Hid (Sort.Below ltInt (mid + 1) b' y) := r5
                        replace r6 : Hid _ := r6
                        replace r7 : Hid _ := r7
                        go_upto_if 113 with (go_at_call 77; refine q.mono ?_; rintro e w1 ⟨rfl, H1⟩)
                        by_cases h4 : mid - a' < b' - mid
                        · have h4z : (mid : Int) - (a' : Int) < (b' : Int) - (mid : Int) := by omega
                          have q := ih.out a' mid l y w1 (by omega) H1 r1 (by omega) (by omega) r4.out
                          go_wp2_with (go_at_call 55; refine q.mono ?_; rintro e w2 ⟨rfl, z, H2, P2, S2⟩)
                          go_roundg (b' - (mid + 1))
                          case measure => omega
                          case rel => exact ⟨mid + 1, b', l, _, _, z, by go_num, rfl, rfl, rfl, rfl, by omega, hb', Nat.le_refl _, by omega, hl, H2, (r6.out z P2 S2).1, fun R h1 h2 => td.out R ((r6.out z P2 S2).2 R h1 h2).1 ((r6.out z P2 S2).2 R h1 h2).2⟩
                        · have h4z : ¬ (mid : Int) - (a' : Int) < (b' : Int) - (mid : Int) := by omega
                          have q := ih.out (mid + 1) b' l y w1 (by omega) H1 (by omega) hb' (by omega) r5.out
                          rw [show ((mid + 1 : Nat) : Int) = (mid : Int) + 1 by omega] at q
                          go_wp2_with (go_at_call 55; refine q.mono ?_; rintro e w2 ⟨rfl, z, H2, P2, S2⟩)
                          go_roundg (mid - a')
                          case measure => omega
                          case rel => exact ⟨a', mid, l, _, _, z, rfl, rfl, rfl, rfl, rfl, r1, by omega, Nat.le_refl _, by omega, hl, H2, (r7.out z P2 S2).1, fun R h1 h2 => td.out R ((r7.out z P2 S2).2 R h1 h2).1 ((r7.out z P2 S2).2 R h1 h2).2⟩
                      · have q := partE cap a' b' u x wc G.st hu1 hu2 hb' hN
                        simp only [Bool.and_eq_true, decide_eq_true_eq, Bool.not_eq_true'] at h87
                        obtain ⟨mid, y, hx⟩ : ∃ mid y, partitionEqual ltInt x a' b' u = (mid, y) := ⟨_, _, rfl⟩
                        obtain ⟨r1, r2, r3, r4, r5⟩ := round_eq swo_ltInt (partitionEqual_holds ltInt) h87.1 hu1 hu2 hxs G.below h87.2 hx
                        rw [hx] at q
                        have td := G.todo
                        clear hx G h87
                        replace td : Hid (Todo a b d a' b' x) := td
                        replace r4 : Hid (Sort.Below ltInt mid b' y) := r4
                        replace r5 : Hid _ := r5
                        go_wp2_with (go_at_call 76; refine q.mono ?_; rintro e w1 ⟨rfl, H1⟩)
                        go_roundg (b' - mid)
                        case measure => omega
                        case rel => exact ⟨mid, b', l, _, _, y, rfl, rfl, rfl, rfl, rfl, r2, hb', Nat.le_refl _, by omega, hl, H1, r4.out, fun R h1 h2 => td.out R (r5.out R h1 h2).1 (r5.out R h1 h2).2⟩
end Go.Proofs.YtomccgpachmpbaaSo
