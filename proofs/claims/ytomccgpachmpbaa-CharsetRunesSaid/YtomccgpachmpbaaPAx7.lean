-- WRITTEN BY pp.py out of the translation; Lean checks it.
import Derived.Test.YtomccgpachmpbaaPAx0
import Derived.Test.YtomccgpachmpbaaPAx6
namespace Go.Proofs.Ytomccgpachmpbaa.PA
open Go.RowKit Go.Proofs.YtomccgpachmpbaaW.PrintWords Go.Proofs.YtomccgpachmpbaaW.PrintLast Go.Proofs.YtomccgpachmpbaaW.PrintMore
attribute [local go_sem] max2_int min2_int max_two min_two max_three min_three max_four min_four   -- for this text's walks alone
set_option linter.unusedVariables false
set_option linter.unusedSimpArgs false

/-! ### slices_Contains_byte_byte: function 44 -/
/-- The bytes of a string, as a row of them is read. -/
def bytesI (s : ByteArray) : List Int := s.data.toList.map fun b => (b.toNat : Int)
def slices_Contains_byte_byte.f (k : Nat) (a0 : ByteArray) (a1 : Int) : Option (Bool) := if a0.size ≤ 281474976710656 then ((slices_Index_byte_byte.f k (bytesI a0) a1).bind fun t => (some (decide (t ≥ 0)))) else none
theorem slices_Contains_byte_byte.mono : ∀ a0 a1 k, LeO (slices_Contains_byte_byte.f k a0 a1) (slices_Contains_byte_byte.f (k + 1) a0 a1) := by
  intro a0 a1 k
  unfold slices_Contains_byte_byte.f
  exact LeO.ite (LeO.bind (slices_Index_byte_byte.mono _ _ _) (fun _ => LeO.refl _)) (LeO.none _)
set_option maxHeartbeats 1000000 in
/-- Over a row of bytes that holds the string's. -/
theorem slices_Contains_byte_byte.calls (k : Nat) (A0 : Option Addr) (c0 : Nat) (a0 : ByteArray) (a1 : Int) (r : Bool) (w : World) (hr0 : Kd.C (Kd.int .u8) w A0 (bytesI a0).length (bytesI a0)) (hc0 : (bytesI a0).length ≤ c0) (h : slices_Contains_byte_byte.f k a0 a1 = some r) :
    Calls Try.prog 44 #[.slice A0 (bytesI a0).length c0, .int .u8 a1] w fun e w' => e = .returned (.bool r) ∧ Drawn0 w w' := by
  unfold slices_Contains_byte_byte.f at h
  split at h
  case isFalse => cases h
  obtain ⟨t, ht, he⟩ := Option.bind_eq_some_iff.mp h
  obtain rfl := Option.some.inj he
  have hcon := slices_Index_byte_byte.calls k A0 c0 (bytesI a0) a1 t w hr0 hc0 ht
  clear hr0 h he
  go_enter Try.func44, Try.ntmps44
  go_wp2_with (go_at_call 56; refine hcon.mono ?_; rintro e w2 ⟨rfl, hb2⟩)
  go_ret
  exact ⟨rfl, hb2⟩
theorem slices_Contains_byte_byte.size {k : Nat} {a0 : ByteArray} {a1 : Int} {r : Bool} (h : slices_Contains_byte_byte.f k a0 a1 = some r) : a0.size ≤ 281474976710656 := by
  unfold slices_Contains_byte_byte.f at h
  split at h
  · assumption
  · cases h
theorem bytesI_length (s : ByteArray) : (bytesI s).length = s.size := by simp [bytesI]
/-- '[]byte(s)': a new row, which holds the string's bytes. -/
theorem conv_event {P : Program} {ops : Array Oper} {Q : Exit → Act → World → Prop} {rest : List Oper} {o : Oper} {a : Act} {W : World} (hgd : o.guard = none) {N : Tmp} (_hd : o.dst = some N) (s : ByteArray) {src dst e : TypeId} {u : TypeDesc}
    (hs : P.underlying src = some u) (hd : P.underlying dst = some (.slice e)) (he : P.underlying e = some (.int .u8)) (hrun : (execOp a.eval o).run P W = ((convert src dst (.string s)).run P W).andThen fun v w' => .ok (.value v) w') (hz : s.size ≤ 281474976710656)
    (h : ∀ A c w1, Kd.C (Kd.int .u8) w1 A (bytesI s).length (bytesI s) → (bytesI s).length ≤ c → Below W.heap.size W w1 → wpList P ops Q rest (a.put o.dst (.slice A (bytesI s).length c)) w1) : wpList P ops Q (o :: rest) a W := by
  rw [Lib.run_convert_string_bytes W src dst e s hs hd he] at hrun
  refine Kd.event_run hgd hrun ?_
  have hl := bytesI_length s
  rw [← hl]
  refine h _ _ _ ⟨rfl, by rw [hl]; omega, fun _ => ⟨_, rfl, fun j p hp => ?_⟩⟩ ?_ ?_
  · obtain ⟨hj, rfl⟩ := List.getElem?_eq_some_iff.1 hp
    refine ⟨[.int .u8 (bytesI s)[j]], rfl, rfl, fun i u hu => ?_⟩
    cases i with
    | succ i => cases hu
    | zero =>
      obtain rfl := Option.some.inj hu
      have hc := Lib.bytesWorld_cell W e s j (by rw [← hl]; exact hj)
      show (Lib.bytesWorld W e s).cell? (Addr.add ⟨W.heap.size, 0, none⟩ (j * 1 + 0)) = _
      have e1 : Addr.add ⟨W.heap.size, 0, none⟩ (j * 1 + 0) = ⟨W.heap.size, j, none⟩ := by simp [Addr.add]; exact fun h => h.symm
      rw [e1, hc]
      simp [bytesI]
      have hj' : j < s.data.size := by simpa [bytesI] using hj
      rw [Array.getElem?_eq_getElem hj']
      rfl
  · rw [hl]; exact grownCap_ge _ _ _ _
  · exact ⟨rfl, rfl, rfl, by rw [Lib.bytesWorld_size]; omega, fun j hj => Lib.bytesWorld_at_old W e s j hj⟩


/-! ### slices_order2Ordered_rune: function 87 -/
def slices_order2Ordered_rune.f (l0 l1 : List (List S41)) : Option (List (List S41)) := if (l0.length + l1.length) * 24 ≤ 140737488355328 then some (l0 ++ l1) else none
theorem slices_order2Ordered_rune.le {l0 l1 r : List (List S41)} (h : slices_order2Ordered_rune.f l0 l1 = some r) : (l0.length + l1.length) * 24 ≤ 140737488355328 ∧ l0 ++ l1 = r := by
  unfold slices_order2Ordered_rune.f at h
  split at h
  · exact ⟨by assumption, Option.some.inj h⟩
  · cases h
/-- An own row is read with what its elements own. -/
theorem R_readsM {α : Type} {d : Kd α} {e : Nat} {w : World} {base : Nat} {ok : Nat → Prop} {A : Option Addr} {n c : Nat} {xs : List α} (h : d.R e w base ok (.slice A n c) xs) : ReadsRow (d.M w base (fun k => ok k ∧ some k ≠ (Value.slice A n c).ownBlock)) d.sz w A n xs := by
  obtain ⟨A', c', he, _, hr⟩ := OwnRow.reads h.2
  injection he with h1 h2 h3
  subst h1
  subst h2
  exact hr


end Go.Proofs.Ytomccgpachmpbaa.PA
