/- The ordered sort at runes, the words of all its walks: the row's state from step to step, and cmp.Less. -/
import Derived.Test.YtomccgpachmpbaaProg
import Derived.Sort.Grow
import Derived.Sort.LotD3
import Derived.Sort.LotA
import Derived.Sort.LotB
import Derived.Sort.LotC
import Derived.WalkKit
import Derived.RegionTactic
import Derived.BigGuard
import Derived.BigCall
import Derived.CellFam
import Derived.Deep.Draws
import Derived.Deep.QuietTactic
import Derived.BigQuiet
import Derived.Deep.LoopGhost
import Derived.Deep.Cut
namespace Go.Proofs.YtomccgpachmpbaaSo
open Go.RowKit Go.Sort Go.Proofs
set_option linter.unusedVariables false

/-- A rune as a cell bears it. -/
abbrev enc : Int → Value := fun x => Value.int .i32 x
/-- Element t. (A name of its own: no rule of simp turns it.) -/
def el (d : Array Int) (t : Nat) : Int := d[t]!
/-- The number in a slot. -/
def num : Value → Int | .int _ q => q | _ => 0

/-- From world w0, in which the row lay, to w: the row holds d; else there are but draws and new blocks. -/
structure St (w0 : World) (blk off N : Nat) (w : World) (d : Array Int) : Prop where
  size : d.size = N
  row : Holds enc w blk off d
  old : blk < w0.heap.size
  way : ∃ n os, w = grow (putRow enc (Sort.ahead w0 n) blk off d) os

section
variable {w0 w : World} {blk off N : Nat} {d : Array Int}
theorem St.start (h : Holds enc w blk off d) (hs : d.size = N) (hb : blk < w.heap.size) : St w blk off N w d :=
  ⟨hs, h, hb, 0, #[], by rw [grow_empty]; exact (putRow_self enc w blk off d h).symm⟩
theorem St.cell (h : St w0 blk off N w d) (t : Nat) (ht : t < N) : w.cell? ⟨blk, off + t, none⟩ = some (.int .i32 (el d t)) := (h.row t (by rw [h.size]; exact ht)).1
theorem St.frozen (h : St w0 blk off N w d) (t : Nat) (ht : t < N) : w.frozen? ⟨blk, off + t, none⟩ = false := (h.row t (by rw [h.size]; exact ht)).2
theorem St.here (h : St w0 blk off N w d) : blk < w.heap.size := by
  obtain ⟨n, os, rfl⟩ := h.way
  have := h.old
  simp
  omega
theorem St.less (h : St w0 blk off N w d) : w0.heap.size ≤ w.heap.size := by
  obtain ⟨n, os, rfl⟩ := h.way
  simp
theorem St.drewN (h : St w0 blk off N w d) (n : Nat) : St w0 blk off N (w.drewN n) d := by
  refine ⟨h.size, fun t ht => h.row t ht, h.old, ?_⟩
  obtain ⟨m, os, rfl⟩ := h.way
  exact ⟨m + n, os, by rw [← ahead_ahead]; rfl⟩
theorem St.drew (h : St w0 blk off N w d) : St w0 blk off N w.drew d := h.drewN 1
theorem St.set (h : St w0 blk off N w d) (i : Nat) (x : Int) (hi : i < N) : St w0 blk off N (w.setCell ⟨blk, off + i, none⟩ (.int .i32 x)) (d.setIfInBounds i x) := by
  have hi' : i < d.size := by rw [h.size]; exact hi
  have e : w.setCell ⟨blk, off + i, none⟩ (enc x) = putRow enc w blk off (d.setIfInBounds i x) := by
    rw [← putRow_set enc w blk off d i x hi', putRow_self enc w blk off d h.row]
  refine ⟨by simp [h.size], ?_, h.old, ?_⟩
  · show Holds enc (w.setCell ⟨blk, off + i, none⟩ (enc x)) blk off _
    rw [e]
    exact holds_putRow enc w blk off d _ h.row (by simp)
  · obtain ⟨m, os, rfl⟩ := h.way
    refine ⟨m, os, ?_⟩
    show World.setCell _ ⟨blk, off + i, none⟩ (enc x) = _
    rw [e, putRow_grow _ _ _ _ _ _ (by simpa using h.old), putRow_putRow _ _ _ _ _ _ (by simp)]
/-- 'data[i], data[j] = data[j], data[i]'. -/
theorem St.swap (h : St w0 blk off N w d) {i j : Nat} (hi : i < N) (hj : j < N) :
    St w0 blk off N ((w.setCell ⟨blk, off + i, none⟩ (.int .i32 (el d j))).setCell ⟨blk, off + j, none⟩ (.int .i32 (el d i))) (swp d i j) :=
  (h.set i (el d j) hi).set j (el d i) hj
theorem St.alloc (h : St w0 blk off N w d) (o : Obj) : St w0 blk off N (w.alloc o) d := by
  rw [alloc_eq_grow]
  refine ⟨h.size, holds_grow enc w _ blk off d h.here h.row, h.old, ?_⟩
  obtain ⟨m, os, rfl⟩ := h.way
  exact ⟨m, os ++ #[o], by rw [grow_grow]⟩
/-- A store into a block that is new. -/
theorem St.beside (h : St w0 blk off N w d) (p : Nat) (hp : w0.heap.size ≤ p) (v : Value) : St w0 blk off N (w.setCell ⟨p, 0, none⟩ v) d := by
  have hne : blk ≠ p := by have := h.old; omega
  refine ⟨h.size, fun t ht => ⟨?_, ?_⟩, h.old, ?_⟩
  · rw [World.cell?_setCell_other _ _ _ _ (by intro e; injection e with e; exact hne e.symm)]
    exact (h.row t ht).1
  · rw [setCell_eq, frozen?_mapBlock]
    exact (h.row t ht).2
  · obtain ⟨m, os, rfl⟩ := h.way
    rw [setCell_eq]
    exact ⟨m, _, mapBlock_grow_new _ _ _ _ (by simpa using hp)⟩
end

theorem isNaN (x : Int) (w : World) : Calls Try.prog 53 #[.int .i32 x] w fun e w' => e = .returned (.bool false) ∧ w' = w := by
  go_enter Try.func53, Try.ntmps53
  go_wp2
  go_ret
  exact ⟨by simp, rfl⟩
set_option maxHeartbeats 1000000 in
theorem less (x y : Int) (w : World) : Calls Try.prog 75 #[.int .i32 x, .int .i32 y] w fun e w' => e = .returned (.bool (ltInt x y)) ∧ w' = w := by
  go_enter Try.func75, Try.ntmps75
  go_wp2_with (go_at_call 53; refine (isNaN _ _).mono ?_; rintro e w' ⟨rfl, rfl⟩)
  go_ret
  exact ⟨rfl, rfl⟩
end Go.Proofs.YtomccgpachmpbaaSo
