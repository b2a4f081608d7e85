/- What is read as data opens as a value of a kind: whole numbers, bools, strings, rows, structs, trees. -/
import Derived.Test.YtomccgpachmpbaaVMore
import Derived.ChangeArms
import Derived.ChangeSlices
import Derived.SizedLaws
import Derived.Carry
namespace Go.Proofs.YtomccgpachmpbaaW.Opens
open Go.RowKit Go.Proofs.YtomccgpachmpbaaW.PrintWords
set_option linter.unusedVariables false
section
variable {H : Type} {enc : TypeId × Value → H} {P : Program} {W : World}

def Opens (enc : TypeId × Value → H) (P : Program) (W : World) {α : Type} (n : Nat) (t : TypeId) (d : Kd α) (Wf : α → Prop) : Prop :=
  ∀ (cs : List Value) (x : DataW H × List MemPlace), DataW.trod enc P W 0 (fun _ => true) true n t cs = some x → (∀ q ∈ x.1.weights P t, q ≤ reachBytes) → ∃ a, d.K W a cs ∧ Wf a

theorem opens_imp {α : Type} {n : Nat} {t : TypeId} {d : Kd α} {Wf Wf' : α → Prop} (h : Opens enc P W n t d Wf) (hi : ∀ x, Wf x → Wf' x) : Opens enc P W n t d Wf' := by
  intro cs x hx hw
  obtain ⟨a, hk, hf⟩ := h cs x hx hw
  exact ⟨a, hk, hi a hf⟩
theorem opens_int {t : TypeId} {k : IntKind} (n : Nat) (ht : P.underlying t = some (.int k)) : Opens enc P W n t (Kd.int k) (fun a => (Lit.int k a).wf = true) := by
  intro cs x hx _
  obtain ⟨a, rfl, _, hw⟩ := DataW.trod_int ht hx
  exact ⟨a, rfl, hw⟩
theorem opens_bool {t : TypeId} (n : Nat) (ht : P.underlying t = some .bool) : Opens enc P W n t Kd.bool (fun _ => True) := by
  intro cs x hx _
  obtain ⟨a, rfl, _⟩ := DataW.trod_bool ht hx
  exact ⟨a, rfl, trivial⟩
theorem opens_string {t : TypeId} (n : Nat) (ht : P.underlying t = some .string) : Opens enc P W n t Kd.string (fun a => a.size ≤ 140737488351232) := by
  intro cs x hx hw
  obtain ⟨a, rfl, rfl, _⟩ := DataW.trod_string ht hx
  refine ⟨a, rfl, ?_⟩
  have h := hw a.data.toList.length (by simp [DataW.weights])
  rw [Array.length_toList] at h
  exact h
theorem mem_weightsAll {e : TypeId} {l : List (DataW H)} {d : DataW H} (hd : d ∈ l) {q : Nat} (hq : q ∈ d.weights P e) : q ∈ DataW.weightsAll P e l := by
  induction l with
  | nil => exact absurd hd (by simp)
  | cons y l ih =>
    simp only [DataW.weightsAll, List.mem_append]
    rcases List.mem_cons.1 hd with rfl | hd
    · exact Or.inl hq
    · exact Or.inr (ih hd)
theorem opens_slice {α : Type} {t e : TypeId} {B : Nat} {d : Kd α} {Wf : α → Prop} (n : Nat) (ht : P.underlying t = some (.slice e)) (hz : P.cellsOf e = d.sz) (hB : P.bytesOf e = B)
    (h : ∀ m, m < n → Opens enc P W m e d Wf) : Opens enc P W n t (Kd.slice e d) (fun l => l.length * B ≤ 140737488351232 ∧ ∀ y ∈ l, Wf y) := by
  intro cs x hx hw
  rcases DataW.trod_slice ht hx with ⟨rfl, rfl⟩ | ⟨a, len, cap, elems, rest, m, rfl, rfl, rfl, hb, hl, hm, hel, he, hs, _⟩
  · refine ⟨[], ⟨none, 0, rfl, Nat.le_refl _, rfl, by simp, fun h0 => absurd h0 (by simp)⟩, by simp, fun y hy => absurd hy (by simp)⟩
  · have each : ∀ i, i < len → ∃ (c : List Value) (z : α), W.cells? 0 (a.add (i * P.cellsOf e)) (P.cellsOf e) = some c ∧ d.K W z c ∧ Wf z := by
      intro i hi
      have h1 := he i hi
      rw [List.getElem?_eq_getElem (by omega)] at h1
      obtain ⟨c, hc, hy⟩ := Option.bind_eq_some_iff.1 h1
      have hmem : elems[i].1 ∈ elems.map (·.1) := List.mem_map.2 ⟨_, List.getElem_mem _, rfl⟩
      obtain ⟨z, hk, hf⟩ := h m (by omega) c _ hy (fun q hq => hw q (by
        simp only [DataW.weights, ht, List.mem_cons, List.mem_append]
        exact Or.inr (Or.inl (mem_weightsAll hmem hq))))
      exact ⟨c, z, hc, hk, hf⟩
    classical
    let g : Nat → Option α := fun i => if hi : i < len then some (Classical.choose (Classical.choose_spec (each i hi))) else none
    let zs : List α := (List.range len).filterMap g
    have hg : ∀ i (hi : i < len), g i = some (Classical.choose (Classical.choose_spec (each i hi))) := fun i hi => by simp [g, hi]
    have hzs : ∀ k, k ≤ len → ((List.range k).filterMap g).length = k ∧ ∀ i, i < k → ((List.range k).filterMap g)[i]? = g i := by
      intro k
      induction k with
      | zero => intro _; exact ⟨by simp, fun i hi => by omega⟩
      | succ k ih =>
        intro hk
        obtain ⟨h1, h2⟩ := ih (by omega)
        have h3 : (List.range (k + 1)).filterMap g = (List.range k).filterMap g ++ [Classical.choose (Classical.choose_spec (each k (by omega)))] := by
          rw [List.range_succ, List.filterMap_append]
          simp [hg k (by omega)]
        rw [h3]
        refine ⟨by simp [h1], fun i hi => ?_⟩
        by_cases hik : i < k
        · rw [List.getElem?_append_left (by omega)]; exact h2 i hik
        · have : i = k := by omega
          subst this
          rw [List.getElem?_append_right (by omega), h1]
          simp [hg i (by omega)]
    obtain ⟨hlen, hget⟩ := hzs len (Nat.le_refl _)
    have hspec : ∀ i, i < len → ∃ z, zs[i]? = some z ∧ Wf z ∧ ∃ c, W.cells? 0 (a.add (i * P.cellsOf e)) (P.cellsOf e) = some c ∧ d.K W z c := by
      intro i hi
      have hc := Classical.choose_spec (Classical.choose_spec (each i hi))
      exact ⟨_, (hget i hi).trans (hg i hi), hc.2.2, _, hc.1, hc.2.1⟩
    have hzl : zs.length = len := hlen
    refine ⟨zs, ⟨some a, cap, by rw [hzl], by rw [hzl]; exact hl, rfl, ?_, fun _ => ⟨a, rfl, fun j p hj => ?_⟩⟩, ?_, fun y hy => ?_⟩
    · rw [hzl]; unfold maxLen at hm; omega
    · have hj' : j < len := by have := (List.getElem?_eq_some_iff.1 hj).1; omega
      obtain ⟨z, h1, _, c, h3, h4⟩ := hspec j hj'
      rw [h1] at hj
      obtain rfl := Option.some.inj hj
      refine ⟨c, d.K_len h4, h4, fun i u hu => ?_⟩
      have hil : i < c.length := (List.getElem?_eq_some_iff.1 hu).1
      have hcl : c.length = P.cellsOf e := by rw [hz]; exact d.K_len h4
      rw [← hz]
      unfold World.cells? at h3
      rw [if_pos (Nat.zero_le _)] at h3
      have h5 := mapM_some_get h3 i i (List.getElem?_range (by omega))
      rw [hu] at h5
      rw [← h5]
      congr 1
      by_cases h7 : j * P.cellsOf e = 0
      · by_cases h8 : i = 0 <;> simp [Addr.add, h7, h8]
      · by_cases h8 : i = 0 <;> simp [Addr.add, h7, h8, Nat.add_assoc]
    · have h6 := hw ((elems.length + rest.length) * P.bytesOf e) (by simp [DataW.weights, ht])
      rw [hB] at h6
      rw [hzl, ← hel]
      exact Nat.le_trans (Nat.mul_le_mul_right _ (Nat.le_add_right _ _)) h6
    · obtain ⟨i, hi, rfl⟩ := List.mem_iff_getElem.1 hy
      obtain ⟨z, h1, h2, _⟩ := hspec i (by omega)
      rw [List.getElem?_eq_getElem hi] at h1
      rw [Option.some.inj h1]
      exact h2

/-- A struct's fields from its cell o on. -/
def OpensF (enc : TypeId × Value → H) (P : Program) (W : World) {α : Type} (n : Nat) (fs : List Field) (o : Nat) (d : Kd α) (Wf : α → Prop) : Prop :=
  ∀ (cs : List Value) (xs : List (DataW H × List MemPlace)), xs.length = fs.length →
    (∀ (i : Nat) (f : Field), fs[i]? = some f → DataW.trod enc P W 0 (fun _ => true) true n f.type ((cs.drop f.offset).take (P.cellsOf f.type)) = xs[i]?) →
    (∀ (i : Nat) (f : Field) (y : DataW H × List MemPlace), fs[i]? = some f → xs[i]? = some y → ∀ q ∈ y.1.weights P f.type, q ≤ reachBytes) → cs.length = o + d.sz → ∃ a, d.K W a (cs.drop o) ∧ Wf a
theorem opensF_one {α : Type} {n o : Nat} {f : Field} {d : Kd α} {Wf : α → Prop} (ho : f.offset = o) (hz : P.cellsOf f.type = d.sz) (h : Opens enc P W n f.type d Wf) : OpensF enc P W n [f] o d Wf := by
  intro cs xs hl hx hw hc
  obtain ⟨x, rfl⟩ : ∃ x, xs = [x] := by
    match xs, hl with
    | [x], _ => exact ⟨x, rfl⟩
  have h1 := hx 0 f rfl
  rw [ho, hz, List.take_of_length_le (by rw [List.length_drop]; omega)] at h1
  exact h _ _ h1 (hw 0 f x rfl rfl)
theorem opensF_cons {α β : Type} {n o : Nat} {f : Field} {fs : List Field} {d : Kd α} {d' : Kd β} {Wf : α → Prop} {Wf' : β → Prop} (ho : f.offset = o) (hz : P.cellsOf f.type = d.sz) (h : Opens enc P W n f.type d Wf)
    (hs : OpensF enc P W n fs (o + d.sz) d' Wf') : OpensF enc P W n (f :: fs) o (Kd.pair d d') (fun x => Wf x.1 ∧ Wf' x.2) := by
  intro cs xs hl hx hw hc
  obtain ⟨x, xs, rfl⟩ : ∃ x xs', xs = x :: xs' := by
    match xs, hl with
    | x :: xs, _ => exact ⟨x, xs, rfl⟩
  have hc' : cs.length = o + (d.sz + d'.sz) := hc
  have h1 := hx 0 f rfl
  rw [ho, hz] at h1
  obtain ⟨a, hk, hf⟩ := h _ _ h1 (hw 0 f x rfl rfl)
  obtain ⟨b, hk', hf'⟩ := hs cs xs (by simpa using hl) (fun i f' hf' => by simpa using hx (i + 1) f' (by simpa using hf')) (fun i f' y hf' hy => hw (i + 1) f' y (by simpa using hf') (by simpa using hy)) (by omega)
  refine ⟨(a, b), ⟨(cs.drop o).take d.sz, cs.drop (o + d.sz), ?_, hk, hk'⟩, hf, hf'⟩
  rw [← List.drop_drop, List.take_append_drop]
theorem opens_struct {α : Type} {n : Nat} {t : TypeId} {fs : Array Field} {d : Kd α} {Wf : α → Prop} (ht : P.underlying t = some (.struct fs)) (hz : P.cellsOf t = d.sz)
    (h : ∀ m, m < n → OpensF enc P W m fs.toList 0 d Wf) : Opens enc P W n t d Wf := by
  intro cs x hx hw
  obtain ⟨xs, m, rfl, rfl, hc, hl, he⟩ := DataW.trod_struct ht hx
  have h1 := h m (by omega) cs xs (by simpa using hl) (fun i f hf => he i f (by simpa using hf)) (fun i f y hf hy q hq => hw q (by
    simp only [DataW.weights, ht]
    exact DataW.weights_mem_each (j := i) (t := f.type) (d := y.1) (by rw [List.getElem?_map, hf]; rfl) (by rw [List.getElem?_map, hy]; rfl) q hq)) (by omega)
  simpa using h1
theorem opens_iso {α β : Type} {n : Nat} {t : TypeId} {d : Kd α} {f : β → α} {g : α → β} {Wf : α → Prop} (hfg : ∀ a, f (g a) = a) (h : Opens enc P W n t d Wf) : Opens enc P W n t (Kd.iso d f) (fun b => Wf (f b)) := by
  intro cs x hx hw
  obtain ⟨a, hk, hf⟩ := h cs x hx hw
  refine ⟨g a, ?_, ?_⟩
  · show d.K W (f (g a)) cs
    rw [hfg]; exact hk
  · show Wf (f (g a))
    rw [hfg]; exact hf
/-- An argument. -/
theorem opens_arg {α : Type} {t : TypeId} {k : Kd α} {Wf : α → Prop} {v : Value} {d : DataW H} {ps : List MemPlace} {ts : List TypeId} {ds : List (DataW H)} (h0 : ∀ n, Opens enc P W n t k Wf)
    (h : DataW.Trod enc P W 0 (fun _ => true) true t v d ps) (hsz : (DataW.weightsEach P ts ds).all (· ≤ reachBytes) = true) {j : Nat} (ht : ts[j]? = some t) (hd : ds[j]? = some d) : ∃ a, k.K W a v.cells.toList ∧ Wf a := by
  obtain ⟨n, hn⟩ := h
  exact h0 n _ _ hn (fun q hq => by
    have := List.all_eq_true.1 hsz q (DataW.weights_mem_each ht hd q hq)
    simpa using this)
end
end Go.Proofs.YtomccgpachmpbaaW.Opens
/- A fact carried through rooms laid and draws taken. -/
namespace Go.Proofs.YtomccgpachmpbaaW.PrintWords
open Go.RowKit
class Tr (w w' : World) : Prop where
  go : ∀ p : World → Prop, (∀ v o, p v → p (v.alloc o)) → (∀ v, p v → p v.drew) → (∀ v n, p v → p (v.drewN n)) → p w → p w'
instance Tr.refl (w : World) : Tr w w := ⟨fun _ _ _ _ h => h⟩
instance Tr.alloc (w w' : World) (o : Obj) [h : Tr w w'] : Tr w (w'.alloc o) := ⟨fun p a b c x => a _ _ (h.go p a b c x)⟩
instance Tr.drew (w w' : World) [h : Tr w w'] : Tr w w'.drew := ⟨fun p a b c x => b _ (h.go p a b c x)⟩
instance Tr.drewN (w w' : World) (n : Nat) [h : Tr w w'] : Tr w (w'.drewN n) := ⟨fun p a b c x => c _ _ (h.go p a b c x)⟩
theorem bT {w w' : World} {g : Nat} {o : Obj} (h : w.heap[g]? = some o) [t : Tr w w'] : w'.heap[g]? = some o := t.go (fun v => v.heap[g]? = some o) (fun _ o' x => blk_alloc x o') (fun _ x => blk_drew x) (fun _ n x => blk_drewN x n) h
theorem hB_t {v w w' : World} (h : Below v.heap.size v w) [t : Tr w w'] : Below v.heap.size v w' := t.go (fun u => Below v.heap.size v u) (fun _ o x => below_alloc x o) (fun _ x => below_drew1 x) (fun _ n x => pw_below_drewN x n) h
namespace Kd
variable {α : Type} {d : Kd α} {e : Nat} {w w' : World} {base : Nat} {ok : Nat → Prop} {v : Value} {xs : List α}
theorem R_t (h : d.R e w base ok v xs) [t : Tr w w'] : d.R e w' base ok v xs := t.go (fun u => d.R e u base ok v xs) (fun _ o x => R_alloc x o) (fun _ x => R_drew x) (fun _ n x => R_drewN x n) h
theorem N_t (h : N d e w base ok v xs) [t : Tr w w'] : N d e w' base ok v xs := t.go (fun u => N d e u base ok v xs) (fun _ o x => N_alloc x o) (fun _ x => N_drew x) (fun _ n x => N_drewN x n) h
theorem V_t (h : V d e w base ok v xs) [t : Tr w w'] : V d e w' base ok v xs := t.go (fun u => V d e u base ok v xs) (fun _ o x => V_alloc x o) (fun _ x => V_drew x) (fun _ n x => V_drewN x n) h
theorem C_t {A : Option Addr} {n : Nat} (h : d.C w A n xs) [t : Tr w w'] : d.C w' A n xs := t.go (fun u => d.C u A n xs) (fun _ o x => C_alloc x o) (fun _ x => C_drew x) (fun _ n x => C_drewN x n) h
end Kd
/- Short words for what the printed texts say often. -/
theorem dT {p : Prop} [Decidable p] (h : decide p = true := by first | (with_reducible assumption) | assumption) : p := of_decide_eq_true h
theorem rT {p : Prop} (h : p := by first | rfl | (simp; done) | (simp [*]; done)) : p := h
theorem mT {p : Prop} (h : p := by (try simp only [List.map_toArray, List.map_cons, List.map_nil]); first | done | rfl | (simp only [List.length_drop, List.length_take]; rfl)) : p := h
theorem aM {p : Prop} (h : p) : Aside0 p := ⟨h⟩
theorem sA {α : Type} (l : List α) (i : Nat) (a : α) : l.toArray.setIfInBounds i a = (l.set i a).toArray := List.setIfInBounds_toArray l i a
theorem sZ {α : Type} (x y : α) (l : List α) : (x :: l).set 0 y = y :: l := List.set_cons_zero ..
theorem sS {α : Type} (x y : α) (l : List α) (n : Nat) : (x :: l).set (n + 1) y = x :: l.set n y := List.set_cons_succ ..
open Go.Proofs.YtomccgpachmpbaaW.PrintLast Go.Proofs.YtomccgpachmpbaaW.PrintMore
abbrev T : Bool := true
abbrev F : Bool := false
section
variable {P : Program} {ops : Array Oper} {Q : Exit → Act → World → Prop} {md : Region.Mode} {S : World → Prop} {ds : List Nat}
/-- An operation that yields a value, whatever the world. -/
theorem pX {tb : Bool × List (List Nat × List Nat)} {i : Nat} {N : Option Tmp} {oi : Oper} {v : Value} {fuel : Nat} {l : Array Bool} {a a' : Act} {w : World} (l' : Array Bool) (hT : rtab md ops = tb) (h : wpAnyLast P md ops Q S ds fuel l' a' w)
    (hi : ops[i]? = some oi := by rfl) (hN : oi.dst = N := by rfl) (hc : anyT tb l.toList l'.toList i = true := by kernel_rfl) (hy : Yields P ops oi v a := by exact Or.inl ⟨by rfl, by intro w'; go_simp; with_reducible rfl⟩)
    (ha : a.put N v = a' := by simp only [Act.put, sA, sZ, sS, i64_w, i32_w]; rfl) (hQ : ∀ c a w, Q (.panic c) (a.put oi.dst v) w → Q (.panic c) a w := by exact fun _ _ _ h => h) : wpAnyLast P md ops Q S ds (fuel + 1) l a w := pure_ l' hi hN (any_of hT hc) hQ hy ha h
/-- An operation that reads what is held. -/
theorem tX {tb : Bool × List (List Nat × List Nat)} {B : List Nat} {i : Nat} {N : Option Tmp} {oi : Oper} {v : Value} {fuel : Nat} {l : Array Bool} {a a' : Act} {w : World} (l' : Array Bool) (hT : rtab md ops = tb) (hB : waitsOk tb.2 B = true) (hS : S w) (h : wpAnyLast P md ops Q S ds fuel l' a' w)
    (hi : ops[i]? = some oi := by rfl) (hN : oi.dst = N := by rfl) (hc : takeW tb B ds l.toList l'.toList i = true := by kernel_rfl)
    (hy : YieldsIf P ops S oi v a := by exact Or.inl ⟨by rfl, by intro w' s_; (try (have s0 := s_.1; replace s_ := s_.2)); (try (have s1 := s_.1; replace s_ := s_.2)); (try (have s2 := s_.1; replace s_ := s_.2)); (try (have s3 := s_.1; replace s_ := s_.2)); (try (have s4 := s_.1; replace s_ := s_.2)); (try (have s5 := s_.1; replace s_ := s_.2)); (try (have s6 := s_.1; replace s_ := s_.2)); (try (have s7 := s_.1; replace s_ := s_.2)); (try (have s8 := s_.1; replace s_ := s_.2)); go_simp; with_reducible rfl⟩)
    (ha : a.put N v = a' := by simp only [Act.put, sA, sZ, sS, i64_w, i32_w]; rfl) (hQ : ∀ c a w, Q (.panic c) (a.put oi.dst v) w → Q (.panic c) a w := by exact fun _ _ _ h => h) : wpAnyLast P md ops Q S ds (fuel + 1) l a w := take_ l' hi hN (take_ofW hT hB hc) hQ hy hS ha h
end
end Go.Proofs.YtomccgpachmpbaaW.PrintWords
