/- Flat layouts distribute over concatenation and ignore groups and nesting; sizes and counts of groups are additive; no condition. -/
import Derived.Test.YtcmhffjcicolcaaPAx24
import Derived.Test.YtcmhffjcicolcaaPAx25
import Derived.Test.YtcmhffjcicolcaaPAx26
import Derived.Test.YtcmhffjcicolcaaPl4
import Derived.Test.YtcmhffjcicolcaaPl5
import Derived.Test.YtcmhffjcicolcaaPlk
-- needs: arboristlaw54_PrettydocJoins_v0 arboristlaw54_PrettydocJoins_v1 arboristlaw54_PrettydocJoins_v2
namespace Go.Proofs.Ytcmhffjcicolcaa.Pure
open Go.RowKit Go.Proofs.Ytcmhffjcicolcaa.PA Go.Proofs.YtcmhffjcicolcaaW.PrintWords Go.Proofs.YtcmhffjcicolcaaW.PrintLast
set_option linter.unusedVariables false
set_option linter.unusedSimpArgs false
/-- a document after another -/
def catT (x y : S25) : S25 := ⟨8, ⟨#[]⟩, 0, [x, y]⟩
def nestT (m : Int) (x : S25) : S25 := ⟨6, ⟨#[]⟩, m, [x]⟩
def groupT (x : S25) : S25 := ⟨7, ⟨#[]⟩, 0, [x]⟩
theorem cat_wf {x y : S25} (hx : W25 x) (hy : W25 y) : W25 (catT x y) := .mk (show (Lit.int .i64 8).wf = true by decide) (show 0 ≤ 140737488351232 by decide) (show (Lit.int .i64 0).wf = true by decide) (show 2 * 56 ≤ 140737488351232 by omega) (fun z hz => by
  simp only [catT, List.mem_cons, List.not_mem_nil, or_false] at hz
  rcases hz with rfl | rfl
  · exact hx
  · exact hy)
theorem nest_wf {x : S25} (hx : W25 x) {m : Int} (h0 : 0 ≤ m) (h1 : m ≤ 200) : W25 (nestT m x) := .mk (show (Lit.int .i64 6).wf = true by decide) (show 0 ≤ 140737488351232 by decide) (show (Lit.int .i64 m).wf = true by simp [Lit.wf, IntKind.min, IntKind.max, IntKind.signed, IntKind.bits]; omega) (show 1 * 56 ≤ 140737488351232 by omega) (fun z hz => by
  simp only [nestT, List.mem_singleton] at hz
  rw [hz]; exact hx)
theorem group_wf {x : S25} (hx : W25 x) : W25 (groupT x) := .mk (show (Lit.int .i64 7).wf = true by decide) (show 0 ≤ 140737488351232 by decide) (show (Lit.int .i64 0).wf = true by decide) (show 1 * 56 ≤ 140737488351232 by omega) (fun z hz => by
  simp only [groupT, List.mem_singleton] at hz
  rw [hz]; exact hx)
theorem cat_ev {x y : S25} (hx : W25 x) (hy : W25 y) : Ev (fun k => prettydoc_Cat.f k [(⟨x.f0, x.f1, x.f2, x.f3⟩ : S25), (⟨y.f0, y.f1, y.f2, y.f3⟩ : S25)]) (8, (⟨#[]⟩ : ByteArray), (0 : Int), [x, y]) := by
  unfold prettydoc_Cat.f
  simp only [eta25]
  exact Ev.bind (clone_ev (catT x y) (cat_wf hx hy)) (Ev.now _)
theorem nest_ev {x : S25} (hx : W25 x) (m : Int) : Ev (fun k => prettydoc_Nest.f k m x.f0 x.f1 x.f2 x.f3) (6, (⟨#[]⟩ : ByteArray), m, [x]) := by
  unfold prettydoc_Nest.f
  refine Ev.bind (clone_ev x hx) ?_
  simp only [eta25]
  exact Ev.now _
theorem group_ev {x : S25} (hx : W25 x) : Ev (fun k => prettydoc_Group.f k x.f0 x.f1 x.f2 x.f3) (7, (⟨#[]⟩ : ByteArray), (0 : Int), [x]) := by
  unfold prettydoc_Group.f
  refine Ev.bind (clone_ev x hx) ?_
  simp only [eta25]
  exact Ev.now _
theorem empty_list : (⟨#[]⟩ : ByteArray).toList = [] := by rw [toList_data]
theorem empty_line : lineB ⟨#[]⟩ = false := by unfold lineB; rfl
theorem aT_cat (x y : S25) (hx : aT x = 0) (hy : aT y = 0) : aT (catT x y) = 0 := by
  simp only [catT, aT, aL, nodeE, empty_list, empty_line, hx, hy]
  simp
theorem aT_nest (x : S25) (m : Int) (h0 : 0 ≤ m) (h1 : m ≤ 200) : aT (groupT (nestT m x)) = aT x := by
  simp only [groupT, nestT, aT, aL, nodeE, empty_list, empty_line]
  have h2 : ¬ (m < 0 ∨ m > 200) := by omega
  by_cases hx : aT x = 0 <;> simp [h2, hx]
theorem dT_nest (x : S25) (m m' : Int) (n : Nat) : dT (groupT (nestT m x)) n = dT (groupT (nestT m' x)) n := by
  cases n with
  | zero => simp only [groupT, nestT, dT]
  | succ n =>
    cases n with
    | zero => simp only [groupT, nestT, dT, dL]
    | succ n => simp only [groupT, nestT, dT, dL]
theorem RT_nest (x : S25) (m : Int) (h0 : 0 ≤ m) (h1 : m ≤ 200) : RT (groupT (nestT m x)) = RT (groupT (nestT 1 x)) := by
  unfold RT
  rw [aT_nest x m h0 h1, aT_nest x 1 (by omega) (by omega), dT_nest x m 1]
  rfl
theorem RT_zero {z : S25} (h : RT z = 0) : aT z = 0 := by
  unfold RT at h
  split at h
  · cases h
  · split at h
    · cases h
    · exact h
/-- What Flat answers of a document that is right. -/
theorem pFlat_ev (z : S25) (hw : W25 z) (hc : cT z ≤ 140737488355328) : ∃ s b, Ev (fun k => prettydoc_Flat.f k z.f0 z.f1 z.f2 z.f3) (s, b) ∧ (RT z = 0 → b = !hT z) ∧ (RT z = 0 → hT z = false → s.data.toList = tT z) ∧ (b = false → s = ⟨#[]⟩) := by
  by_cases hr : RT z = 0
  · obtain ⟨o1, e1, t1⟩ := pflat_ev z hw (RT_zero hr) [] (by simpa using hc)
    by_cases hh : hT z = true
    · refine ⟨⟨#[]⟩, false, ?_, fun _ => (by rw [hh]; rfl), fun _ h => (by rw [hh] at h; cases h), fun _ => rfl⟩
      unfold prettydoc_Flat.f
      refine Ev.bind (pRight_ev z hw) ?_
      simp only [if_pos hr]
      refine Ev.bind e1 ?_
      simp only [hh, Bool.not_true, Bool.false_eq_true, if_false]
      exact Ev.now _
    · have hh' := Bool.eq_false_iff.2 hh
      refine ⟨⟨o1.toArray⟩, true, ?_, fun _ => (by rw [hh']; rfl), fun _ _ => (by rw [t1 hh']; simp), fun h => (by cases h)⟩
      unfold prettydoc_Flat.f
      refine Ev.bind (pRight_ev z hw) ?_
      simp only [if_pos hr]
      refine Ev.bind e1 ?_
      simp only [hh', Bool.not_false, if_true]
      exact Ev.now _
  · refine ⟨⟨#[]⟩, false, ?_, fun h => absurd h hr, fun h => absurd h hr, fun _ => rfl⟩
    unfold prettydoc_Flat.f
    refine Ev.bind (pRight_ev z hw) ?_
    simp only [if_neg hr]
    exact Ev.now _
theorem j1_v2 {x y : S25} (hx : W25 x) (hy : W25 y) (nx : nodes x ≤ 300) (ny : nodes y ≤ 300) : Ev (fun k => arboristlaw54_PrettydocJoins_v2.j1 k false x.f0 x.f1 x.f2 x.f3 y.f0 y.f1 y.f2 y.f3 8 (⟨#[]⟩ : ByteArray) 0 [x, y]) true := by
  have hc := cat_wf hx hy
  have gx := gT_le x
  have gy := gT_le y
  have nc : nodes (catT x y) = 1 + nodes x + nodes y := by simp only [catT, nodes, nodesL]; omega
  have gc : gT (catT x y) = gT x + gT y := by simp only [catT, gT, gL]; simp
  have s1 : Ev (fun k => prettydoc_Size.f k 8 (⟨#[]⟩ : ByteArray) 0 [x, y]) (min (nodes (catT x y) : Int) 8193) := pSize_ev (catT x y) hc
  have g1 : Ev (fun k => prettydoc_Groups.f k 8 (⟨#[]⟩ : ByteArray) 0 [x, y]) (gT (catT x y) : Int) := pgroups_ev (catT x y) hc (by omega)
  refine Ev.step (f := fun k => ((prettydoc_Size.f k 8 (⟨#[]⟩ : ByteArray) 0 [x, y]).bind fun t671 => ((prettydoc_Size.f k x.f0 x.f1 x.f2 x.f3).bind fun t672 => ((prettydoc_Size.f k y.f0 y.f1 y.f2 y.f3).bind fun t673 => (if t671 = (wrap64 ((wrap64 (1 + t672)) + t673)) then ((prettydoc_Groups.f k 8 (⟨#[]⟩ : ByteArray) 0 [x, y]).bind fun t674 => ((prettydoc_Groups.f k x.f0 x.f1 x.f2 x.f3).bind fun t675 => ((prettydoc_Groups.f k y.f0 y.f1 y.f2 y.f3).bind fun t676 => (if t674 = (wrap64 (t675 + t676)) then ((arboristlaw54_knows.f k).bind fun t677 => (some t677)) else (none))))) else (none)))))) (fun k => ?_) ?_
  · simp only [arboristlaw54_PrettydocJoins_v2.j1, Bool.false_eq_true, if_false]
  · refine Ev.bind s1 (Ev.bind (pSize_ev x hx) (Ev.bind (pSize_ev y hy) ?_))
    have e1 : min (nodes (catT x y) : Int) 8193 = wrap64 (wrap64 (1 + min (nodes x : Int) 8193) + min (nodes y : Int) 8193) := by unfold wrap64; omega
    simp only [if_pos e1]
    refine Ev.bind g1 (Ev.bind (pgroups_ev x hx (by omega)) (Ev.bind (pgroups_ev y hy (by omega)) ?_))
    have e2 : (gT (catT x y) : Int) = wrap64 ((gT x : Int) + (gT y : Int)) := by unfold wrap64; omega
    simp only [if_pos e2]
    exact Ev.bind knows_ev (Ev.now _)
theorem JoinsMain (x y : S25) (a : Int) (hx : W25 x) (hy : W25 y) (h0a : 0 ≤ a) (h1a : a ≤ 255) (fx : wT x 300 ≤ 300) (fy : wT y 300 ≤ 300) (rx : RT x = 0) (ry : RT y = 0) (rc : RT (catT x y) = 0) :
    ∃ k, arboristlaw54_PrettydocJoins_v2.f k x.f0 x.f1 x.f2 x.f3 y.f0 y.f1 y.f2 y.f3 a = some true := by
  have lx := light x 300 fx
  have ly := light y 300 fy
  have cx : cT x ≤ 100000 := by rw [cT_eq]; omega
  have cy : cT y ≤ 100000 := by rw [cT_eq]; omega
  have cc : cT (catT x y) ≤ 140737488355328 := by simp only [catT, cT, cL]; show 1 + 0 + _ ≤ _; omega
  obtain ⟨m, hm, m0, m1⟩ : ∃ m : Int, Int.tmod (wrap64 a) 100 = m ∧ 0 ≤ m ∧ m ≤ 200 := by
    have hwr : wrap64 a = a := by unfold wrap64; omega
    refine ⟨Int.tmod (wrap64 a) 100, rfl, ?_, ?_⟩
    · rw [hwr, Int.tmod_eq_emod_of_nonneg h0a]; omega
    · rw [hwr, Int.tmod_eq_emod_of_nonneg h0a]; omega
  have cm : cT (groupT (nestT m x)) ≤ 140737488355328 := by simp only [groupT, nestT, cT, cL]; show 1 + 0 + (1 + 0 + _ + _) ≤ _; omega
  obtain ⟨s, bx, e1, b1, t1, z1⟩ := pFlat_ev x hx (by omega)
  obtain ⟨t, by_, e2, b2, t2, z2⟩ := pFlat_ev y hy (by omega)
  obtain ⟨u, bz, e3, b3, t3, z3⟩ := pFlat_ev (catT x y) (cat_wf hx hy) cc
  obtain ⟨v, bw, e4, b4, t4, z4⟩ := pFlat_ev (groupT (nestT m x)) (group_wf (nest_wf hx m0 m1)) cm
  have hc : hT (catT x y) = (hT x || hT y) := by simp only [catT, hT, hL]; simp
  have hg : hT (groupT (nestT m x)) = hT x := by simp only [groupT, nestT, hT, hL]; simp
  have tc : tT (catT x y) = tT x ++ tT y := by simp only [catT, tT, tL]; simp
  have tg : tT (groupT (nestT m x)) = tT x := by simp only [groupT, nestT, tT, tL]; simp
  have b1' := b1 rx
  have b2' := b2 ry
  have b3' := b3 rc
  rw [hc] at b3'
  have N1 := nest_ev hx m
  have N2 := nest_ev hx 1
  have G1 : Ev (fun k => prettydoc_Group.f k 6 (⟨#[]⟩ : ByteArray) m [x]) (7, (⟨#[]⟩ : ByteArray), (0 : Int), [nestT m x]) := group_ev (nest_wf hx m0 m1)
  have G2 : Ev (fun k => prettydoc_Group.f k 6 (⟨#[]⟩ : ByteArray) 1 [x]) (7, (⟨#[]⟩ : ByteArray), (0 : Int), [nestT 1 x]) := group_ev (nest_wf hx (by omega) (by omega))
  have R2 : Ev (fun k => prettydoc_Right.f k 7 (⟨#[]⟩ : ByteArray) 0 [nestT 1 x]) (RT (groupT (nestT 1 x))) := pRight_ev (groupT (nestT 1 x)) (group_wf (nest_wf hx (by omega) (by omega)))
  have RC : Ev (fun k => prettydoc_Right.f k 8 (⟨#[]⟩ : ByteArray) 0 [x, y]) (RT (catT x y)) := pRight_ev (catT x y) (cat_wf hx hy)
  have E3 : Ev (fun k => prettydoc_Flat.f k 8 (⟨#[]⟩ : ByteArray) 0 [x, y]) (u, bz) := e3
  have E4 : Ev (fun k => prettydoc_Flat.f k 7 (⟨#[]⟩ : ByteArray) 0 [nestT m x]) (v, bw) := e4
  have same : RT (groupT (nestT 1 x)) = 0 → bw = bx ∧ v = s := by
    intro h
    have h' : RT (groupT (nestT m x)) = 0 := by rw [RT_nest x m m0 m1]; exact h
    have b4' := b4 h'
    rw [hg] at b4'
    refine ⟨by rw [b4', b1'], ?_⟩
    by_cases hh : hT x = true
    · rw [z4 (by rw [b4', hh]; rfl), z1 (by rw [b1', hh]; rfl)]
    · have hh' := Bool.eq_false_iff.2 hh
      exact bytes_ext (by rw [t4 h' (by rw [hg]; exact hh'), t1 rx hh', tg])
  by_cases hxh : hT x = true
  · -- the first has a hard break
    have q1 : bx = false := by rw [b1', hxh]; rfl
    have q3 : bz = false := by rw [b3', hxh]; rfl
    subst q1
    subst q3
    refine (Ev.rounds (g := fun k => arboristlaw54_PrettydocJoins_v2.f k x.f0 x.f1 x.f2 x.f3 y.f0 y.f1 y.f2 y.f3 a) (r := true) ?_)
    unfold arboristlaw54_PrettydocJoins_v2.f
    refine Ev.bind (few_ev x hx 300 (by omega) (by omega)) ?_
    simp only [decide_eq_true fx, if_true]
    refine Ev.bind (few_ev y hy 300 (by omega) (by omega)) ?_
    simp only [decide_eq_true fy, if_true]
    refine Ev.bind (pRight_ev x hx) ?_
    simp only [if_pos rx]
    refine Ev.bind (pRight_ev y hy) ?_
    rw [ry]
    refine Ev.step (f := _) (fun k => by simp only [arboristlaw54_PrettydocJoins_v2.j0, bne_self_eq_false, Bool.false_eq_true, if_false]; exact rfl) ?_
    refine Ev.bind (cat_ev hx hy) ?_
    refine Ev.bind RC ?_
    simp only [if_pos rc]
    rw [hm]
    refine Ev.bind e1 (Ev.bind e2 (Ev.bind E3 (Ev.bind N1 (Ev.bind G1 (Ev.bind E4 ?_)))))
    simp only [Bool.false_eq_true, if_false]
    simp only [bne_self_eq_false, Bool.false_eq_true, if_false]
    · refine Ev.bind (a := ((6, (⟨#[]⟩ : ByteArray), (1 : Int), [x]) : Int × ByteArray × Int × List S25)) N2 (Ev.bind (a := ((7, (⟨#[]⟩ : ByteArray), (0 : Int), [nestT 1 x]) : Int × ByteArray × Int × List S25)) G2 (Ev.bind R2 ?_))
      by_cases h1 : RT (groupT (nestT 1 x)) = 0
      · obtain ⟨q1, q2⟩ := same h1
        simp only [if_pos h1, q1, q2, bne_self_eq_false, Bool.false_eq_true, if_false]
        exact j1_v2 hx hy (by omega) (by omega)
      · simp only [if_neg h1]
        exact j1_v2 hx hy (by omega) (by omega)
  · have hxf := Bool.eq_false_iff.2 hxh
    have q1 : bx = true := by rw [b1', hxf]; rfl
    subst q1
    by_cases hyh : hT y = true
    · have q2 : by_ = false := by rw [b2', hyh]; rfl
      have q3 : bz = false := by rw [b3', hyh, hxf]; rfl
      subst q2
      subst q3
      refine (Ev.rounds (g := fun k => arboristlaw54_PrettydocJoins_v2.f k x.f0 x.f1 x.f2 x.f3 y.f0 y.f1 y.f2 y.f3 a) (r := true) ?_)
      unfold arboristlaw54_PrettydocJoins_v2.f
      refine Ev.bind (few_ev x hx 300 (by omega) (by omega)) ?_
      simp only [decide_eq_true fx, if_true]
      refine Ev.bind (few_ev y hy 300 (by omega) (by omega)) ?_
      simp only [decide_eq_true fy, if_true]
      refine Ev.bind (pRight_ev x hx) ?_
      simp only [if_pos rx]
      refine Ev.bind (pRight_ev y hy) ?_
      rw [ry]
      refine Ev.step (f := _) (fun k => by simp only [arboristlaw54_PrettydocJoins_v2.j0, bne_self_eq_false, Bool.false_eq_true, if_false]; exact rfl) ?_
      refine Ev.bind (cat_ev hx hy) ?_
      refine Ev.bind RC ?_
      simp only [if_pos rc]
      rw [hm]
      refine Ev.bind e1 (Ev.bind e2 (Ev.bind E3 (Ev.bind N1 (Ev.bind G1 (Ev.bind E4 ?_)))))
      simp only [if_true, Bool.false_eq_true, if_false]
      simp only [if_true, bne_self_eq_false, Bool.false_eq_true, if_false]
      · refine Ev.bind (a := ((6, (⟨#[]⟩ : ByteArray), (1 : Int), [x]) : Int × ByteArray × Int × List S25)) N2 (Ev.bind (a := ((7, (⟨#[]⟩ : ByteArray), (0 : Int), [nestT 1 x]) : Int × ByteArray × Int × List S25)) G2 (Ev.bind R2 ?_))
        by_cases h1 : RT (groupT (nestT 1 x)) = 0
        · obtain ⟨q1, q2⟩ := same h1
          simp only [if_pos h1, q1, q2, bne_self_eq_false, Bool.false_eq_true, if_false]
          exact j1_v2 hx hy (by omega) (by omega)
        · simp only [if_neg h1]
          exact j1_v2 hx hy (by omega) (by omega)
    · have hyf := Bool.eq_false_iff.2 hyh
      have q2 : by_ = true := by rw [b2', hyf]; rfl
      have q3 : bz = true := by rw [b3', hyf, hxf]; rfl
      subst q2
      subst q3
      refine (Ev.rounds (g := fun k => arboristlaw54_PrettydocJoins_v2.f k x.f0 x.f1 x.f2 x.f3 y.f0 y.f1 y.f2 y.f3 a) (r := true) ?_)
      unfold arboristlaw54_PrettydocJoins_v2.f
      refine Ev.bind (few_ev x hx 300 (by omega) (by omega)) ?_
      simp only [decide_eq_true fx, if_true]
      refine Ev.bind (few_ev y hy 300 (by omega) (by omega)) ?_
      simp only [decide_eq_true fy, if_true]
      refine Ev.bind (pRight_ev x hx) ?_
      simp only [if_pos rx]
      refine Ev.bind (pRight_ev y hy) ?_
      rw [ry]
      refine Ev.step (f := _) (fun k => by simp only [arboristlaw54_PrettydocJoins_v2.j0, bne_self_eq_false, Bool.false_eq_true, if_false]; exact rfl) ?_
      refine Ev.bind (cat_ev hx hy) ?_
      refine Ev.bind RC ?_
      simp only [if_pos rc]
      rw [hm]
      refine Ev.bind e1 (Ev.bind e2 (Ev.bind E3 (Ev.bind N1 (Ev.bind G1 (Ev.bind E4 ?_)))))
      simp only [if_true, Bool.false_eq_true, if_false]
      simp only [if_true, bne_self_eq_false, Bool.false_eq_true, if_false]
      have hs : s.data.toList = tT x := t1 rx hxf
      have ht : t.data.toList = tT y := t2 ry hyf
      have hsz : s.size = (tT x).length := by rw [← hs]; simp
      have htz : t.size = (tT y).length := by rw [← ht]; simp
      have hlx := tT_len x
      have hly := tT_len y
      have hu : u = s ++ t := bytes_ext (by rw [t3 rc (by rw [hc, hxf, hyf]; rfl), tc, ByteArray.data_append, Array.toList_append, hs, ht])
      simp only [if_pos (show s.size + t.size ≤ 9223372036854775807 by omega), hu, if_true]
      · refine Ev.bind (a := ((6, (⟨#[]⟩ : ByteArray), (1 : Int), [x]) : Int × ByteArray × Int × List S25)) N2 (Ev.bind (a := ((7, (⟨#[]⟩ : ByteArray), (0 : Int), [nestT 1 x]) : Int × ByteArray × Int × List S25)) G2 (Ev.bind R2 ?_))
        by_cases h1 : RT (groupT (nestT 1 x)) = 0
        · obtain ⟨q1, q2⟩ := same h1
          simp only [if_pos h1, q1, q2, bne_self_eq_false, Bool.false_eq_true, if_false]
          exact j1_v2 hx hy (by omega) (by omega)
        · simp only [if_neg h1]
          exact j1_v2 hx hy (by omega) (by omega)
theorem PrettydocJoins : arboristlaw54_PrettydocJoins.Pure := by
  intro x y a hx hy ha
  have hb : 0 ≤ a ∧ a ≤ 255 := by
    simp [Lit.wf, IntKind.min, IntKind.max, IntKind.signed, IntKind.bits] at ha
    omega
  have know : Ev (fun k => (arboristlaw54_knows.f k).bind fun t => some t) true := Ev.bind knows_ev (Ev.now _)
  have out : Ev (fun k => arboristlaw54_PrettydocJoins_v0.j0 k true) true := Ev.step (f := fun k => (arboristlaw54_knows.f k).bind fun t => some t) (fun k => by simp only [arboristlaw54_PrettydocJoins_v0.j0, if_true]) know
  have v0 : (¬ wT x 300 ≤ 300 ∨ ¬ wT y 300 ≤ 300 ∨ RT x ≠ 0 ∨ RT y ≠ 0) → ∃ k, arboristlaw54_PrettydocJoins_v0.f k x.f0 x.f1 x.f2 x.f3 y.f0 y.f1 y.f2 y.f3 a = some true := by
    intro h
    refine Ev.rounds (g := fun k => arboristlaw54_PrettydocJoins_v0.f k x.f0 x.f1 x.f2 x.f3 y.f0 y.f1 y.f2 y.f3 a) (r := true) ?_
    unfold arboristlaw54_PrettydocJoins_v0.f
    refine Ev.bind (few_ev x hx 300 (by omega) (by omega)) ?_
    by_cases h1 : wT x 300 ≤ 300
    · simp only [decide_eq_true h1, if_true]
      refine Ev.bind (few_ev y hy 300 (by omega) (by omega)) ?_
      by_cases h2 : wT y 300 ≤ 300
      · simp only [decide_eq_true h2, if_true]
        refine Ev.bind (pRight_ev x hx) ?_
        by_cases h3 : RT x = 0
        · simp only [if_pos h3]
          refine Ev.bind (pRight_ev y hy) ?_
          have h4 : (RT y != 0) = true := bne_iff_ne.2 (by rcases h with h | h | h | h <;> first | exact h | contradiction)
          simp only [h4]
          exact out
        · simp only [if_neg h3]; exact out
      · simp only [decide_eq_false h2, Bool.false_eq_true, if_false]; exact out
    · simp only [decide_eq_false h1, Bool.false_eq_true, if_false]; exact out
  by_cases h1 : wT x 300 ≤ 300
  · by_cases h2 : wT y 300 ≤ 300
    · by_cases h3 : RT x = 0
      · by_cases h4 : RT y = 0
        · by_cases h5 : RT (catT x y) = 0
          · obtain ⟨k, h⟩ := JoinsMain x y a hx hy hb.1 hb.2 h1 h2 h3 h4 h5
            exact ⟨k, .inr (.inr h)⟩
          · have RC : Ev (fun k => prettydoc_Right.f k 8 (⟨#[]⟩ : ByteArray) 0 [x, y]) (RT (catT x y)) := pRight_ev (catT x y) (cat_wf hx hy)
            have hv : ∃ k, arboristlaw54_PrettydocJoins_v1.f k x.f0 x.f1 x.f2 x.f3 y.f0 y.f1 y.f2 y.f3 a = some true := by
              refine Ev.rounds (g := fun k => arboristlaw54_PrettydocJoins_v1.f k x.f0 x.f1 x.f2 x.f3 y.f0 y.f1 y.f2 y.f3 a) (r := true) ?_
              unfold arboristlaw54_PrettydocJoins_v1.f
              refine Ev.bind (few_ev x hx 300 (by omega) (by omega)) ?_
              simp only [decide_eq_true h1, if_true]
              refine Ev.bind (few_ev y hy 300 (by omega) (by omega)) ?_
              simp only [decide_eq_true h2, if_true]
              refine Ev.bind (pRight_ev x hx) ?_
              simp only [if_pos h3]
              refine Ev.bind (pRight_ev y hy) ?_
              rw [h4]
              refine Ev.step (f := _) (fun k => by simp only [arboristlaw54_PrettydocJoins_v1.j0, bne_self_eq_false, Bool.false_eq_true, if_false]; exact rfl) ?_
              refine Ev.bind (cat_ev hx hy) ?_
              refine Ev.bind RC ?_
              simp only [if_neg h5]
              refine Ev.bind RC ?_
              by_cases h6 : RT (catT x y) = 6
              · simp only [if_pos h6]; exact know
              · simp only [if_neg h6]
                refine Ev.bind RC ?_
                have h7 : RT (catT x y) = 4 := by
                  have hz := aT_cat x y (RT_zero h3) (RT_zero h4)
                  unfold RT at h5 h6 ⊢
                  split
                  · rfl
                  · rename_i hn
                    rw [if_neg hn] at h5 h6
                    split at h6
                    · exact absurd rfl h6
                    · rename_i hd
                      rw [if_neg hd] at h5
                      exact absurd hz h5
                simp only [if_pos h7]; exact know
            obtain ⟨k, h⟩ := hv
            exact ⟨k, .inr (.inl h)⟩
        · obtain ⟨k, h⟩ := v0 (.inr (.inr (.inr h4))); exact ⟨k, .inl h⟩
      · obtain ⟨k, h⟩ := v0 (.inr (.inr (.inl h3))); exact ⟨k, .inl h⟩
    · obtain ⟨k, h⟩ := v0 (.inr (.inl h2)); exact ⟨k, .inl h⟩
  · obtain ⟨k, h⟩ := v0 (.inl h1); exact ⟨k, .inl h⟩
end Go.Proofs.Ytcmhffjcicolcaa.Pure
