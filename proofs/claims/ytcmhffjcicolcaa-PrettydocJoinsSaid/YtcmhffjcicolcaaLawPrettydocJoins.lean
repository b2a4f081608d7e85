/- PrettydocJoins: for every input it returns true, and its arguments read afterwards as before. Conditions: none. -/
-- WRITTEN BY pp.py out of the translation; Lean checks it.
import Derived.Test.YtcmhffjcicolcaaRows
import Derived.Test.YtcmhffjcicolcaaPAx26
import Derived.Test.YtcmhffjcicolcaaPurePrettydocJoins
import Derived.Test.YtcmhffjcicolcaaOpens
import Derived.WalkKit
import Derived.ProofKit
import Derived.OpenShut
import Derived.ShutString
import Derived.ChangeOld
import Derived.Below
import Derived.SizedLaws
namespace Go.Proofs.Ytcmhffjcicolcaa.prettydocJoins
open Go.ChangeShapes Go.WideShapes Go.ChangeAt Go.RowKit Go.Proofs.YtcmhffjcicolcaaW.Opens Go.Proofs.Ytcmhffjcicolcaa.PA
open Go.ChangeMaps (open_string shut_string)
set_option linter.unusedVariables false
theorem own : ownKnob Try.prog.godebug = none := by kernel_rfl
theorem laidOut : laidOutB Try.prog = true := by kernel_rfl
set_option maxRecDepth 100000 in
theorem lifted (os : Os) (started : os.Started) (H : Type) (enc : TypeId × Value → H) :
    ReturnsInHanded {} Try.checked os 8 .any (Rows.prettydocJoinsSpec.pre6 enc Try.prog Try.f8 Rows.prettydocJoinsRow.domain false) (Rows.prettydocJoinsSpec.post enc Try.prog Try.f8 false true false false) := by
  refine returnsInHanded_of_change_sized (C := Try.checked) own started (by kernel_rfl) Try.func8
    (ChangeSpec.witness6 (enc := enc) (C := Try.checked) false ⟨#[], #[.agg #[.int .i64 0, .string ByteArray.empty, .int .i64 0, .slice none 0 0], .agg #[.int .i64 0, .string ByteArray.empty, .int .i64 0, .slice none 0 0], .int .u8 0], []⟩ 8 (by kernel_rfl) (by kernel_rfl) (by kernel_rfl) (by kernel_rfl)) ?_
  intro W base args ds gs before hval0 hW hcnd hsz0 _
  have hsz : (DataW.weightsEach Try.prog (Try.f8.params.toList ++ Rows.prettydocJoinsSpec.plain.varTypes Try.prog) (ds ++ gs)).all (· ≤ reachBytes) = true := hsz0
  have hval : ∀ (j : Nat) t v, Try.f8.params[j]? = some t → args[j]? = some v → Value.okWide Try.prog W .any base t v := hval0
  have hW' := hW
  obtain ⟨p, q, hA0, hV, rfl, hfz, hnd⟩ := hW
  have hA : DataW.TrodAll enc Try.prog W 0 (fun _ => true) true Try.f8.params.toList args.toList ds p := hA0
  rw [Try.params8] at hA hval hsz
  obtain ⟨v0, vs0, d0, ds0, p0, q0, hargs, rfl, rfl, h0, r0⟩ := trodAll_cons hA
  obtain ⟨v1, vs1, d1, ds1, p1, q1, rfl, rfl, rfl, h1, r1⟩ := trodAll_cons r0
  obtain ⟨v2, vs2, d2, ds2, p2, q2, rfl, rfl, rfl, h2, r2⟩ := trodAll_cons r1
  obtain ⟨rfl, rfl, rfl⟩ := trodAll_nil r2
  obtain rfl : args = #[v0, v1, v2] := by cases args; simp_all
  obtain ⟨rfl, rfl⟩ := trodVars_none hV
  obtain ⟨u0, rfl, _⟩ := okWide_struct Try.underlying25 (hval 0 25 v0 rfl rfl)
  have k0 := h0
  have lt0 : ∀ x ∈ p0, x.block < W.heap.size := by obtain ⟨m, hm⟩ := k0; exact DataW.trod_lt m _ _ _ hm
  obtain ⟨x0, hk0, wf0⟩ := opens_arg  (fun n_ => opens25 n_) h0 hsz (j := 0) rfl rfl
  obtain ⟨A0_3, c0_3, e0, hc0_3, hr0_3⟩ := k25_open hk0
  obtain rfl : u0 = #[.int .i64 x0.f0, .string x0.f1, .int .i64 x0.f2, .slice A0_3 x0.f3.length c0_3] := Array.toList_inj.1 e0
  obtain ⟨u1, rfl, _⟩ := okWide_struct Try.underlying25 (hval 1 25 v1 rfl rfl)
  have k1 := h1
  have lt1 : ∀ x ∈ p1, x.block < W.heap.size := by obtain ⟨m, hm⟩ := k1; exact DataW.trod_lt m _ _ _ hm
  obtain ⟨x1, hk1, wf1⟩ := opens_arg  (fun n_ => opens25 n_) h1 hsz (j := 1) rfl rfl
  obtain ⟨A1_3, c1_3, e1, hc1_3, hr1_3⟩ := k25_open hk1
  obtain rfl : u1 = #[.int .i64 x1.f0, .string x1.f1, .int .i64 x1.f2, .slice A1_3 x1.f3.length c1_3] := Array.toList_inj.1 e1
  obtain ⟨a2, rfl, rfl, rfl, wf2⟩ := open_int Try.underlying5 (hval 2 5 v2 rfl rfl) h2
  try clear hA0
  try clear hval0
  try clear hsz0
  try clear hsz
  refine (PA.arboristlaw54_PrettydocJoins.walk Pure.PrettydocJoins x0 x1 a2 A0_3 c0_3 A1_3 c1_3 W wf0 wf1 wf2 hr0_3 hc0_3 hr1_3 hc1_3).mono fun e W' ⟨he, bel⟩ => ?_
  subst he
  exact ⟨_, rfl, _, _, _, [], _, [], hW', trodAll_mk1 (shut_bool Try.underlying4 _), (trodAll_cons_mk (Below.trod laidOut (by kernel_rfl) (of_decide_eq_true (by kernel_rfl)) k0 bel lt0) (trodAll_cons_mk (Below.trod laidOut (by kernel_rfl) (of_decide_eq_true (by kernel_rfl)) k1 bel lt1) (trodAll_cons_mk (shut_int Try.underlying5 wf2) trodAll_mk0))), rfl, bel.frame _, fun h => by cases h⟩
theorem over : Rows.prettydocJoinsRow.holds Try.pinned (OpenSpec.ofChange Rows.prettydocJoinsSpec) :=
  OpenClaim.holds_of_wide 8 Try.f8 rfl rfl rfl rfl rfl rfl rfl ⟨rfl, rfl, rfl, rfl, rfl⟩ rfl rfl rfl rfl rfl (by kernel_rfl) Try.func8 (by kernel_rfl)
    (of_decide_eq_true (by kernel_rfl)) (by unfold Func.isWrapper; first | (rw [if_pos (by decide +kernel)]; kernel_rfl) | (rw [if_neg (by decide +kernel)]; exact ⟨rfl, rfl⟩))
    (fun os started H enc _ => lifted os started H enc)
theorem proved : Rows.PrettydocJoinsSaid := over
#print axioms proved
end Go.Proofs.Ytcmhffjcicolcaa.prettydocJoins
namespace Go.Proofs.Ytcmhffjcicolcaa
/-- The row, under a short name, for the claim. -/
theorem prettydocJoins_holds : Rows.PrettydocJoinsSaid := prettydocJoins.proved
end Go.Proofs.Ytcmhffjcicolcaa
