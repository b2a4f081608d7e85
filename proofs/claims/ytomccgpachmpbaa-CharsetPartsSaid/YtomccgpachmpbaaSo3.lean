/- The ordered sort at runes: partitionEqualOrdered and partitionOrdered give the plain partitions of the row. -/
import Derived.Test.YtomccgpachmpbaaSo0
import Derived.Deep.CutBlock
namespace Go.Proofs.YtomccgpachmpbaaSo
open Go.RowKit Go.Sort Go.Proofs
set_option linter.unusedVariables false

/-! ### two scans that meet -/
theorem up_on {p : Int → Bool} {x : Array Int} {i j : Nat} (h : i ≤ j) (hp : p (el x i) = true) : scanUp p x j (i + 1) = scanUp p x j i := by
  unfold el at hp
  rw [scanUp.eq_def p x j i, if_pos (by simp [h, hp])]
theorem up_out {p : Int → Bool} {x : Array Int} {i j : Nat} (h : ¬ i ≤ j ∨ p (el x i) = false) : i = scanUp p x j i := by
  unfold el at h
  rw [scanUp, if_neg (by rcases h with h | h <;> simp [h])]
theorem down_on {p : Int → Bool} {x : Array Int} {i j : Nat} (h : i ≤ j) (h0 : 0 < j) (hp : p (el x j) = true) : scanDown p x i (j - 1) = scanDown p x i j := by
  unfold el at hp
  cases j with
  | zero => omega
  | succ k => rw [scanDown.eq_def p x i (k + 1)]; simp only [Nat.add_sub_cancel]; rw [if_pos (by simp [h, hp])]
theorem down_out {p : Int → Bool} {x : Array Int} {i j : Nat} (h : ¬ i ≤ j ∨ p (el x j) = false) : j = scanDown p x i j := by
  unfold el at h
  cases j with
  | zero => rw [scanDown]
  | succ k => rw [scanDown, if_neg (by rcases h with h | h <;> simp [h])]
theorem scans {p q : Int → Bool} (hq : ∀ v, q v = !p v) {x : Array Int} {i j i2 j2 : Nat} (h0 : 0 < i) (h : i ≤ j + 1) (hi : i2 = scanUp p x j i) (hj : j2 = scanDown q x i2 j) :
    i ≤ i2 ∧ i2 ≤ j + 1 ∧ j2 ≤ j ∧ i2 ≤ j2 + 1 ∧ (i2 ≤ j2 → i2 < j2) := by
  obtain ⟨a1, a2, _, a4⟩ := scanUp_spec p x j _ i rfl
  rw [← hi] at a1 a2 a4
  obtain ⟨b1, b2, _, b4⟩ := scanDown_spec q x i2 j
  rw [← hj] at b1 b2 b4
  refine ⟨a1, a2 h, b1, b2 (a2 h), fun hle => ?_⟩
  rcases Nat.lt_or_ge i2 j2 with hlt | hge
  · exact hlt
  · have e : j2 = i2 := by omega
    have f1 := a4 (by omega)
    have f2 := b4 hle (by omega)
    rw [e, hq, f1] at f2
    cases f2

def upE (x : Array Int) (a : Nat) : Int → Bool := fun v => !ltInt x[a]! v
def downE (x : Array Int) (a : Nat) : Int → Bool := fun v => ltInt x[a]! v
theorem eqL {a i j i2 j2 : Nat} {x : Array Int} (hi : i2 = scanUp (upE x a) x j i) (hj : j2 = scanDown (downE x a) x i2 j) :
    partEqLoop ltInt a i j x = if i2 > j2 then (i2, x) else partEqLoop ltInt a (i2 + 1) (j2 - 1) (swp x i2 j2) := by
  subst hj; subst hi
  exact partEqLoop_eq ltInt a i j x

set_option maxHeartbeats 2000000 in
theorem partE {w0 : World} {blk off N : Nat} (cap a b p : Nat) (d : Array Int) (w : World) (H : St w0 blk off N w d) (hap : a ≤ p) (hpb : p < b) (hb : b ≤ N) (hN : N < 4611686018427387904) :
    Calls Try.prog 76 #[.slice (some ⟨blk, off, none⟩) N cap, .int .i64 a, .int .i64 b, .int .i64 p] w fun e w' => e = .returned (.int .i64 (partitionEqual ltInt d a b p).1) ∧ St w0 blk off N w' (partitionEqual ltInt d a b p).2 := by
  have ca := H.cell a (by omega)
  have cp := H.cell p (by omega)
  have fa := H.frozen a (by omega)
  have fp := H.frozen p (by omega)
  obtain ⟨v', hy'⟩ := cell?_setCell_some (w := w) (p := ⟨blk, off + a, none⟩) (x := .int .i32 (el d p)) (q := ⟨blk, off + p, none⟩) cp
  replace H : Hid (St w0 blk off N w d) := H
  go_enter Try.func76, Try.ntmps76
  go_wp2
  go_region
  go_wp2
  clear ca cp fa fp hy'
  go_loopg [9, 10] (b - (a + 1)) (fun k s9 s10 wr => ∃ (i j : Nat) (x : Array Int), s9 = .int .i64 i ∧ s10 = .int .i64 j ∧ a < i ∧ i ≤ j + 1 ∧ j < b ∧ j + 1 - i ≤ k ∧ St w0 blk off N wr x ∧ partEqLoop ltInt a i j x = partitionEqual ltInt d a b p)
  case atStart => exact ⟨a + 1, b - 1, swp d a p, by go_num, by go_num, by omega, by omega, by omega, by omega, (H.out.swap (by omega) (by omega)).drew, rfl⟩
  case round =>
    obtain ⟨i, j, x, rfl, rfl, hai, hij, hjb, hk, HS, HE⟩ := hrel
    clear H
    replace HS : Hid (St w0 blk off N wr x) := HS
    replace HE : Hid (partEqLoop ltInt a i j x = partitionEqual ltInt d a b p) := HE
    go_upto_block 2 with fail
    go_cut [9] from 29 to 82 (fun s9 wx => ∃ i2 : Nat, s9 = .int .i64 i2 ∧ i2 = scanUp (upE x a) x j i ∧ St w0 blk off N wx x)
    case first =>
      go_wp2_with fail
      go_loopg [9] (j + 1 - i) (fun k s9 wx => ∃ i2 : Nat, s9 = .int .i64 i2 ∧ i2 ≤ j + 1 ∧ j + 1 - i2 ≤ k ∧ St w0 blk off N wx x ∧ scanUp (upE x a) x j i2 = scanUp (upE x a) x j i)
      case atStart => exact ⟨i, rfl, hij, Nat.le_refl _, HS.out, rfl⟩
      case round =>
        clear HS
        obtain ⟨i2, rfl, hi2, hk2, HS, HU⟩ := hrel
        have hcell := HS.cell
        replace HS : Hid (St w0 blk off N wr x) := HS
        replace HU : Hid (scanUp (upE x a) x j i2 = scanUp (upE x a) x j i) := HU
        by_cases hle : i2 ≤ j
        · have hlez : (i2 : Int) ≤ (j : Int) := by omega
          go_upto_region 3 with fail
          go_big_quiet (first | (go_at_call 75; refine Calls.quiet_of_same (less _ _ _)))
          go_wp2
          · have ht : (!ltInt (el x a) (el x i2)) = true := by assumption
            go_roundg (j + 1 - (i2 + 1))
            case measure => omega
            case rel => exact ⟨i2 + 1, by go_num, by omega, Nat.le_refl _, HS.out.drewN _, by rw [← HU.out]; exact up_on hle ht⟩
          · have ht : (!ltInt (el x a) (el x i2)) = false := by assumption
            go_meet
            exact ⟨i2, rfl, by rw [← HU.out]; exact up_out (.inr ht), HS.out.drewN _⟩
        · have hlez : decide ((i2 : Int) ≤ (j : Int)) = false := decide_eq_false (by omega)
          go_upto_region 3 with fail
          go_big_quiet (first | (go_at_call 75; refine Calls.quiet_of_same (less _ _ _)))
          go_wp2
          go_meet
          exact ⟨i2, rfl, by rw [← HU.out]; exact up_out (.inl hle), HS.out.drewN _⟩
    case rest =>
      clear HS
      obtain ⟨i2, rfl, hi2, HS⟩ := hcut
      have hb1 : i ≤ i2 ∧ i2 ≤ j + 1 := by
        have h := scans (q := downE x a) (fun v => by simp [upE, downE]) (by omega) hij hi2 rfl
        exact ⟨h.1, h.2.1⟩
      replace hi2 : Hid (i2 = scanUp (upE x a) x j i) := hi2
      replace HS : Hid (St w0 blk off N wc x) := HS
      go_upto_block 4 with fail
      go_cut [10] from 29 to 82 (fun s10 wx => ∃ j2 : Nat, s10 = .int .i64 j2 ∧ j2 = scanDown (downE x a) x i2 j ∧ St w0 blk off N wx x)
      case first =>
        go_wp2_with fail
        go_loopg [10] (j + 1) (fun k s10 wx => ∃ j2 : Nat, s10 = .int .i64 j2 ∧ j2 ≤ j ∧ i2 ≤ j2 + 1 ∧ j2 < k ∧ St w0 blk off N wx x ∧ scanDown (downE x a) x i2 j2 = scanDown (downE x a) x i2 j)
        case atStart => exact ⟨j, rfl, Nat.le_refl _, hb1.2, by omega, HS.out, rfl⟩
        case round =>
          clear HS
          obtain ⟨j2, rfl, hj2, hij2, hk2, HS, HU⟩ := hrel
          have hcell := HS.cell
          replace HS : Hid (St w0 blk off N wr x) := HS
          replace HU : Hid (scanDown (downE x a) x i2 j2 = scanDown (downE x a) x i2 j) := HU
          by_cases hle : i2 ≤ j2
          · have hlez : (i2 : Int) ≤ (j2 : Int) := by omega
            go_upto_region 5 with fail
            go_big_quiet (first | (go_at_call 75; refine Calls.quiet_of_same (less _ _ _)))
            go_wp2
            · have ht : ltInt (el x a) (el x j2) = true := by assumption
              go_roundg (gk - 1)
              case measure => omega
              case rel => exact ⟨j2 - 1, by go_num, by omega, by omega, by omega, HS.out.drewN _, by rw [← HU.out]; exact down_on hle (by omega) ht⟩
            · have ht : ltInt (el x a) (el x j2) = false := by assumption
              go_meet
              exact ⟨j2, rfl, by rw [← HU.out]; exact down_out (.inr ht), HS.out.drewN _⟩
          · have hlez : decide ((i2 : Int) ≤ (j2 : Int)) = false := decide_eq_false (by omega)
            go_upto_region 5 with fail
            go_big_quiet (first | (go_at_call 75; refine Calls.quiet_of_same (less _ _ _)))
            go_wp2
            go_meet
            exact ⟨j2, rfl, by rw [← HU.out]; exact down_out (.inl hle), HS.out.drewN _⟩
      case rest =>
        clear HS
        obtain ⟨j2, rfl, hj2, HS⟩ := hcut
        obtain ⟨g1, g2, g3, g4, g5⟩ := scans (q := downE x a) (fun v => by simp [upE, downE]) (by omega) hij hi2.out hj2
        have he := eqL hi2.out hj2
        have hcell := HS.cell
        have hfroz := HS.frozen
        replace HS : Hid (St w0 blk off N wc x) := HS
        replace he : Hid (partEqLoop ltInt a i j x = if i2 > j2 then (i2, x) else partEqLoop ltInt a (i2 + 1) (j2 - 1) (swp x i2 j2)) := he
        clear hj2 hi2 hb1
        by_cases hgt : i2 > j2
        · clear g5
          go_wp2
          go_ret
          rw [← HE.out, he.out, if_pos hgt]
          exact ⟨rfl, HS.out⟩
        · have hlt : i2 < j2 := g5 (by omega)
          clear g5
          go_wp2_with fail
          go_region
          go_wp2
          go_roundg (j2 - 1 + 1 - (i2 + 1))
          case measure => omega
          case rel => exact ⟨i2 + 1, j2 - 1, swp x i2 j2, by go_num, by go_num, by omega, by omega, by omega, Nat.le_refl _, (HS.out.swap (by omega) (by omega)).drew, by rw [← HE.out, he.out, if_neg hgt]⟩

def upP (x : Array Int) (a : Nat) : Int → Bool := fun v => ltInt v x[a]!
def downP (x : Array Int) (a : Nat) : Int → Bool := fun v => !ltInt v x[a]!
theorem ptL {a i j i2 j2 : Nat} {x : Array Int} (hi : i2 = scanUp (upP x a) x j i) (hj : j2 = scanDown (downP x a) x i2 j) :
    partLoop ltInt a i j x = if i2 > j2 then (j2, x) else partLoop ltInt a (i2 + 1) (j2 - 1) (swp x i2 j2) := by
  subst hj; subst hi
  exact partLoop_eq ltInt a i j x
theorem ptF {a b p i j i2 j2 : Nat} {d x : Array Int} (hx : x = swp d a p) (hI : i = a + 1) (hJ : j = b - 1) (hi : i2 = scanUp (upP x a) x j i) (hj : j2 = scanDown (downP x a) x i2 j) :
    partition ltInt d a b p = if i2 > j2 then (j2, true, swp x j2 a) else ((partLoop ltInt a (i2 + 1) (j2 - 1) (swp x i2 j2)).1, false, swp (partLoop ltInt a (i2 + 1) (j2 - 1) (swp x i2 j2)).2 (partLoop ltInt a (i2 + 1) (j2 - 1) (swp x i2 j2)).1 a) := by
  subst hj; subst hi; subst hI; subst hJ; subst hx
  rfl

set_option maxHeartbeats 4000000 in
set_option maxRecDepth 100000 in
theorem part {w0 : World} {blk off N : Nat} (cap a b p : Nat) (d : Array Int) (w : World) (H : St w0 blk off N w d) (hap : a ≤ p) (hpb : p < b) (hb : b ≤ N) (hN : N < 4611686018427387904) :
    Calls Try.prog 77 #[.slice (some ⟨blk, off, none⟩) N cap, .int .i64 a, .int .i64 b, .int .i64 p] w fun e w' => e = .returned (.tuple #[.int .i64 (partition ltInt d a b p).1, .bool (partition ltInt d a b p).2.1]) ∧ St w0 blk off N w' (partition ltInt d a b p).2.2 := by
  have ca := H.cell a (by omega)
  have cp := H.cell p (by omega)
  have fa := H.frozen a (by omega)
  have fp := H.frozen p (by omega)
  obtain ⟨v', hy'⟩ := cell?_setCell_some (w := w) (p := ⟨blk, off + a, none⟩) (x := .int .i32 (el d p)) (q := ⟨blk, off + p, none⟩) cp
  replace H : Hid (St w0 blk off N w d) := H
  go_enter Try.func77, Try.ntmps77
  go_upto_region 1 with fail
  go_region
  go_upto_region 2 with fail
  go_cut [10, 11] from 12 (fun s10 s11 wx => ∃ (i j : Nat) (x : Array Int), s10 = .int .i64 i ∧ s11 = .int .i64 j ∧ i = a + 1 ∧ j = b - 1 ∧ x = swp d a p ∧ St w0 blk off N wx x)
  case first =>
    go_wp2_with fail
    go_meet
    exact ⟨a + 1, b - 1, _, by go_num, by go_num, rfl, rfl, rfl, (H.out.swap (by omega) (by omega)).drew⟩
  case rest =>
    clear ca cp fa fp hy' H
    obtain ⟨i, j, x, rfl, rfl, hi, hj, hx, HS⟩ := hcut
    have hij : i ≤ j + 1 := by omega
    have hai : a < i := by omega
    have hjb : j < b := by omega
    replace HS : Hid (St w0 blk off N wc x) := HS
    replace hi : Hid (i = a + 1) := hi
    replace hj : Hid (j = b - 1) := hj
    replace hx : Hid (x = swp d a p) := hx
    go_upto_block 0 with fail
    go_cut [10] from 12 (fun s10 wx => ∃ i2 : Nat, s10 = .int .i64 i2 ∧ i2 = scanUp (upP x a) x j i ∧ St w0 blk off N wx x)
    case first =>
      go_wp2_with fail
      go_loopg [10] (j + 1 - i) (fun k s10 wx => ∃ i2 : Nat, s10 = .int .i64 i2 ∧ i2 ≤ j + 1 ∧ j + 1 - i2 ≤ k ∧ St w0 blk off N wx x ∧ scanUp (upP x a) x j i2 = scanUp (upP x a) x j i)
      case atStart => exact ⟨i, rfl, hij, Nat.le_refl _, HS.out, rfl⟩
      case round =>
        clear HS
        obtain ⟨i2, rfl, hi2, hk2, HS, HU⟩ := hrel
        have hcell := HS.cell
        replace HS : Hid (St w0 blk off N wr x) := HS
        replace HU : Hid (scanUp (upP x a) x j i2 = scanUp (upP x a) x j i) := HU
        by_cases hle : i2 ≤ j
        · have hlez : (i2 : Int) ≤ (j : Int) := by omega
          go_upto_region 3 with fail
          go_big_quiet (first | (go_at_call 75; refine Calls.quiet_of_same (less _ _ _)))
          go_wp2
          · have ht : ltInt (el x i2) (el x a) = true := by assumption
            go_roundg (j + 1 - (i2 + 1))
            case measure => omega
            case rel => exact ⟨i2 + 1, by go_num, by omega, Nat.le_refl _, HS.out.drewN _, by rw [← HU.out]; exact up_on hle ht⟩
          · have ht : ltInt (el x i2) (el x a) = false := by assumption
            go_meet
            exact ⟨i2, rfl, by rw [← HU.out]; exact up_out (.inr ht), HS.out.drewN _⟩
        · have hlez : decide ((i2 : Int) ≤ (j : Int)) = false := decide_eq_false (by omega)
          go_upto_region 3 with fail
          go_big_quiet (first | (go_at_call 75; refine Calls.quiet_of_same (less _ _ _)))
          go_wp2
          go_meet
          exact ⟨i2, rfl, by rw [← HU.out]; exact up_out (.inl hle), HS.out.drewN _⟩
    case rest =>
      clear HS
      obtain ⟨i2, rfl, hi2, HS⟩ := hcut
      have hb1 : i ≤ i2 ∧ i2 ≤ j + 1 := by
        have h := scans (q := downP x a) (fun v => by simp [upP, downP]) (by omega) hij hi2 rfl
        exact ⟨h.1, h.2.1⟩
      replace hi2 : Hid (i2 = scanUp (upP x a) x j i) := hi2
      replace HS : Hid (St w0 blk off N wc x) := HS
      go_upto_block 2 with fail
      go_cut [11] from 12 (fun s11 wx => ∃ j2 : Nat, s11 = .int .i64 j2 ∧ j2 = scanDown (downP x a) x i2 j ∧ St w0 blk off N wx x)
      case first =>
        go_wp2_with fail
        go_loopg [11] (j + 1) (fun k s11 wx => ∃ j2 : Nat, s11 = .int .i64 j2 ∧ j2 ≤ j ∧ i2 ≤ j2 + 1 ∧ j2 < k ∧ St w0 blk off N wx x ∧ scanDown (downP x a) x i2 j2 = scanDown (downP x a) x i2 j)
        case atStart => exact ⟨j, rfl, Nat.le_refl _, hb1.2, by omega, HS.out, rfl⟩
        case round =>
          clear HS
          obtain ⟨j2, rfl, hj2, hij2, hk2, HS, HU⟩ := hrel
          have hcell := HS.cell
          replace HS : Hid (St w0 blk off N wr x) := HS
          replace HU : Hid (scanDown (downP x a) x i2 j2 = scanDown (downP x a) x i2 j) := HU
          by_cases hle : i2 ≤ j2
          · have hlez : (i2 : Int) ≤ (j2 : Int) := by omega
            go_upto_region 5 with fail
            go_big_quiet (first | (go_at_call 75; refine Calls.quiet_of_same (less _ _ _)))
            go_wp2
            · have ht : (!ltInt (el x j2) (el x a)) = true := by assumption
              go_roundg (gk - 1)
              case measure => omega
              case rel => exact ⟨j2 - 1, by go_num, by omega, by omega, by omega, HS.out.drewN _, by rw [← HU.out]; exact down_on hle (by omega) ht⟩
            · have ht : (!ltInt (el x j2) (el x a)) = false := by assumption
              go_meet
              exact ⟨j2, rfl, by rw [← HU.out]; exact down_out (.inr ht), HS.out.drewN _⟩
          · have hlez : decide ((i2 : Int) ≤ (j2 : Int)) = false := decide_eq_false (by omega)
            go_upto_region 5 with fail
            go_big_quiet (first | (go_at_call 75; refine Calls.quiet_of_same (less _ _ _)))
            go_wp2
            go_meet
            exact ⟨j2, rfl, by rw [← HU.out]; exact down_out (.inl hle), HS.out.drewN _⟩
      case rest =>
        clear HS
        obtain ⟨j2, rfl, hj2, HS⟩ := hcut
        obtain ⟨g1, g2, g3, g4, g5⟩ := scans (q := downP x a) (fun v => by simp [upP, downP]) (by omega) hij hi2.out hj2
        have he := ptF hx.out hi.out hj.out hi2.out hj2
        have hcell := HS.cell
        have hfroz := HS.frozen
        replace HS : Hid (St w0 blk off N wc x) := HS
        replace he : Hid (partition ltInt d a b p = if i2 > j2 then (j2, true, swp x j2 a) else ((partLoop ltInt a (i2 + 1) (j2 - 1) (swp x i2 j2)).1, false, swp (partLoop ltInt a (i2 + 1) (j2 - 1) (swp x i2 j2)).2 (partLoop ltInt a (i2 + 1) (j2 - 1) (swp x i2 j2)).1 a)) := he
        clear hj2 hi2 hb1 hx hi hj
        by_cases hgt : i2 > j2
        · clear g5
          obtain ⟨v', hy'⟩ := cell?_setCell_some (w := wc) (p := ⟨blk, off + j2, none⟩) (x := .int .i32 (el x a)) (q := ⟨blk, off + a, none⟩) (hcell a (by omega))
          go_wp2_with fail
          go_region
          go_wp2
          go_ret2
          rw [he.out, if_pos hgt]
          exact ⟨rfl, (HS.out.swap (by omega) (by omega)).drew⟩
        · have hlt : i2 < j2 := g5 (by omega)
          clear g5
          go_upto_region 10 with fail
          go_region
          clear hcell hfroz
          go_upto_region 11 with fail
          replace HS := (HS.out.swap (i := i2) (j := j2) (by omega) (by omega)).drew
          go_cut [10, 11] from 12 (fun s10 s11 wx => s10 = .int .i64 ((i2 + 1 : Nat) : Int) ∧ s11 = .int .i64 (j2 : Nat) ∧ St w0 blk off N wx (swp x i2 j2))
          case first =>
            go_wp2_with fail
            go_meet
            exact ⟨by go_num, rfl, HS⟩
          case rest =>
            clear HS
            obtain ⟨rfl, rfl, HS⟩ := hcut
            obtain ⟨i', hi'⟩ : ∃ i' : Nat, i' = i2 + 1 := ⟨_, rfl⟩
            obtain ⟨y, hy⟩ : ∃ y : Array Int, y = swp x i2 j2 := ⟨_, rfl⟩
            rw [← hy] at HS he
            rw [← hi'] at he ⊢
            have q1 : a < i' := by omega
            have q2 : i' ≤ j2 := by omega
            have q3 : j2 < b := by omega
            have q4 : ¬ i2 > j2 := by omega
            replace he : Hid (partition ltInt d a b p = ((partLoop ltInt a i' (j2 - 1) y).1, false, swp (partLoop ltInt a i' (j2 - 1) y).2 (partLoop ltInt a i' (j2 - 1) y).1 a)) := by have := he.out; rw [if_neg q4] at this; exact this
            clear hy hi' hgt hlt g1 g2 g3 g4 q4 hij hai hjb
            replace HS : Hid (St w0 blk off N wc y) := HS
            go_upto_block 4 with fail
            go_cut [10, 11] from 12 (fun s10 s11 wx => ∃ (m : Nat) (z : Array Int), s11 = .int .i64 m ∧ a ≤ m ∧ m < b ∧ partition ltInt d a b p = (m, false, swp z m a) ∧ St w0 blk off N wx z)
            case first =>
              go_wp2
              go_loopg [10, 11] (j2 - i') (fun k s10 s11 wr => ∃ (i j : Nat) (z : Array Int), s10 = .int .i64 i ∧ s11 = .int .i64 j ∧ a < i ∧ i ≤ j + 1 ∧ j < b ∧ j + 1 - i ≤ k ∧ St w0 blk off N wr z ∧ partLoop ltInt a i j z = partLoop ltInt a i' (j2 - 1) y)
              case atStart => exact ⟨i', j2 - 1, y, rfl, by go_num, by omega, by omega, by omega, by omega, HS.out, rfl⟩
              case round =>
                clear HS
                obtain ⟨i, j, z, rfl, rfl, hai, hij, hjb, hk, HS, HE⟩ := hrel
                replace HS : Hid (St w0 blk off N wr z) := HS
                replace HE : Hid (partLoop ltInt a i j z = partLoop ltInt a i' (j2 - 1) y) := HE
                clear q1 q2 q3
                go_upto_block 6 with fail
                go_cut [10] from 99 to 152 (fun s10 wx => ∃ i2 : Nat, s10 = .int .i64 i2 ∧ i2 = scanUp (upP z a) z j i ∧ St w0 blk off N wx z)
                case first =>
                  go_wp2_with fail
                  go_loopg [10] (j + 1 - i) (fun k s10 wx => ∃ i2 : Nat, s10 = .int .i64 i2 ∧ i2 ≤ j + 1 ∧ j + 1 - i2 ≤ k ∧ St w0 blk off N wx z ∧ scanUp (upP z a) z j i2 = scanUp (upP z a) z j i)
                  case atStart => exact ⟨i, rfl, hij, Nat.le_refl _, HS.out, rfl⟩
                  case round =>
                    clear HS
                    obtain ⟨i2, rfl, hi2, hk2, HS, HU⟩ := hrel
                    have hcell := HS.cell
                    replace HS : Hid (St w0 blk off N wr z) := HS
                    replace HU : Hid (scanUp (upP z a) z j i2 = scanUp (upP z a) z j i) := HU
                    by_cases hle : i2 ≤ j
                    · have hlez : (i2 : Int) ≤ (j : Int) := by omega
                      go_upto_region 13 with fail
                      go_big_quiet (first | (go_at_call 75; refine Calls.quiet_of_same (less _ _ _)))
                      go_wp2
                      · have ht : ltInt (el z i2) (el z a) = true := by assumption
                        go_roundg (j + 1 - (i2 + 1))
                        case measure => omega
                        case rel => exact ⟨i2 + 1, by go_num, by omega, Nat.le_refl _, HS.out.drewN _, by rw [← HU.out]; exact up_on hle ht⟩
                      · have ht : ltInt (el z i2) (el z a) = false := by assumption
                        go_meet
                        exact ⟨i2, rfl, by rw [← HU.out]; exact up_out (.inr ht), HS.out.drewN _⟩
                    · have hlez : decide ((i2 : Int) ≤ (j : Int)) = false := decide_eq_false (by omega)
                      go_upto_region 13 with fail
                      go_big_quiet (first | (go_at_call 75; refine Calls.quiet_of_same (less _ _ _)))
                      go_wp2
                      go_meet
                      exact ⟨i2, rfl, by rw [← HU.out]; exact up_out (.inl hle), HS.out.drewN _⟩
                case rest =>
                  clear HS
                  obtain ⟨i2, rfl, hi2, HS⟩ := hcut
                  have hb1 : i ≤ i2 ∧ i2 ≤ j + 1 := by
                    have h := scans (q := downP z a) (fun v => by simp [upP, downP]) (by omega) hij hi2 rfl
                    exact ⟨h.1, h.2.1⟩
                  replace hi2 : Hid (i2 = scanUp (upP z a) z j i) := hi2
                  replace HS : Hid (St w0 blk off N wc z) := HS
                  go_upto_block 8 with fail
                  go_cut [11] from 99 to 152 (fun s11 wx => ∃ j2 : Nat, s11 = .int .i64 j2 ∧ j2 = scanDown (downP z a) z i2 j ∧ St w0 blk off N wx z)
                  case first =>
                    go_wp2_with fail
                    go_loopg [11] (j + 1) (fun k s11 wx => ∃ j2 : Nat, s11 = .int .i64 j2 ∧ j2 ≤ j ∧ i2 ≤ j2 + 1 ∧ j2 < k ∧ St w0 blk off N wx z ∧ scanDown (downP z a) z i2 j2 = scanDown (downP z a) z i2 j)
                    case atStart => exact ⟨j, rfl, Nat.le_refl _, hb1.2, by omega, HS.out, rfl⟩
                    case round =>
                      clear HS
                      obtain ⟨j2, rfl, hj2, hij2, hk2, HS, HU⟩ := hrel
                      have hcell := HS.cell
                      replace HS : Hid (St w0 blk off N wr z) := HS
                      replace HU : Hid (scanDown (downP z a) z i2 j2 = scanDown (downP z a) z i2 j) := HU
                      by_cases hle : i2 ≤ j2
                      · have hlez : (i2 : Int) ≤ (j2 : Int) := by omega
                        go_upto_region 15 with fail
                        go_big_quiet (first | (go_at_call 75; refine Calls.quiet_of_same (less _ _ _)))
                        go_wp2
                        · have ht : (!ltInt (el z j2) (el z a)) = true := by assumption
                          go_roundg (gk - 1)
                          case measure => omega
                          case rel => exact ⟨j2 - 1, by go_num, by omega, by omega, by omega, HS.out.drewN _, by rw [← HU.out]; exact down_on hle (by omega) ht⟩
                        · have ht : (!ltInt (el z j2) (el z a)) = false := by assumption
                          go_meet
                          exact ⟨j2, rfl, by rw [← HU.out]; exact down_out (.inr ht), HS.out.drewN _⟩
                      · have hlez : decide ((i2 : Int) ≤ (j2 : Int)) = false := decide_eq_false (by omega)
                        go_upto_region 15 with fail
                        go_big_quiet (first | (go_at_call 75; refine Calls.quiet_of_same (less _ _ _)))
                        go_wp2
                        go_meet
                        exact ⟨j2, rfl, by rw [← HU.out]; exact down_out (.inl hle), HS.out.drewN _⟩
                  case rest =>
                    clear HS
                    obtain ⟨j2, rfl, hj2, HS⟩ := hcut
                    obtain ⟨g1, g2, g3, g4, g5⟩ := scans (q := downP z a) (fun v => by simp [upP, downP]) (by omega) hij hi2.out hj2
                    have hl := ptL hi2.out hj2
                    have hcell := HS.cell
                    have hfroz := HS.frozen
                    replace HS : Hid (St w0 blk off N wc z) := HS
                    rw [HE.out] at hl
                    clear HE
                    by_cases hgt : i2 > j2
                    · rw [if_pos hgt] at hl
                      replace he := he.out
                      rw [hl] at he
                      replace he : Hid _ := he
                      clear g5 hl hj2 hi2 hb1
                      go_wp2_with fail
                      go_meet
                      exact ⟨j2, z, rfl, by omega, by omega, he.out, HS.out⟩
                    · rw [if_neg hgt] at hl
                      have hlt : i2 < j2 := g5 (by omega)
                      replace hl : Hid _ := hl
                      clear g5 hj2 hi2 hb1
                      go_wp2_with fail
                      go_region
                      go_wp2
                      go_roundg (j2 - 1 + 1 - (i2 + 1))
                      case measure => omega
                      case rel => exact ⟨i2 + 1, j2 - 1, swp z i2 j2, by go_num, by go_num, by omega, by omega, by omega, Nat.le_refl _, (HS.out.swap (by omega) (by omega)).drew, hl.out.symm⟩
            case rest =>
              clear HS he q1 q2 q3
              obtain ⟨m, z, rfl, ham, hmb, he, HS⟩ := hcut
              have hcm := HS.cell m (by omega)
              have hca := HS.cell a (by omega)
              have hfm := HS.frozen m (by omega)
              have hfa := HS.frozen a (by omega)
              obtain ⟨v', hy'⟩ := cell?_setCell_some (w := wc) (p := ⟨blk, off + m, none⟩) (x := .int .i32 (el z a)) (q := ⟨blk, off + a, none⟩) hca
              replace HS : Hid (St w0 blk off N wc z) := HS
              replace he : Hid (partition ltInt d a b p = (m, false, swp z m a)) := he
              go_wp2_with fail
              go_region
              go_wp2
              go_ret2
              rw [he.out]
              exact ⟨rfl, (HS.out.swap (by omega) (by omega)).drew⟩
end Go.Proofs.YtomccgpachmpbaaSo
