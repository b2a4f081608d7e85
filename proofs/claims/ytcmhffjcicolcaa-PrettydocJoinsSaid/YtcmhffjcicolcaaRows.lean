/-
  NARROWER THAN 'FOR EVERY INPUT', by the rows' own cells (each row's printed sentence says how): PrettydocRight: loops · PrettydocDeep: loops · PrettydocSame: loops · PrettydocFlat: loops · PrettydocMade: loops · PrettydocJoins: loops.
  DERIVED. THE GIVEN ROWS OF THIS SEAT. 6 by the template 'for every input the law returns true; each argument reads behind the call as it read before'; 0 by the template 'total and deterministic' (their statements: YtcmhffjcicolcaaTotals.lean).
  GIVEN WITH THE SEED: the statements are not yours to turn. If you find one false, say at which input.
  Laid BY PROGRAM, IN A SANDBOX (cutbox-rows.mjs): the forced cells as the released guide's own fill.sh prints them over the translation 896287a4b50e210c… (all of the seat's roots in one cut). By AI agents, Wed Nov 11 2026. No macro, syntax, notation, axiom, sorry.
-/
import Derived.Test.YtcmhffjcicolcaaChecked
import GoSem.Claim
import GoSem.ClaimJoined
import GoSem.ClaimMapViews
import Derived.JoinedTies
import Derived.KernelRfl
namespace Go.Proofs.Ytcmhffjcicolcaa
/- THE CELL 'sum', in the pinned program and in every row, IS THE sha256 OF THE DUMP (.gsa) THAT YtcmhffjcicolcaaProg.lean LOADS. Nothing in Lean hashes anything: it is a label: what it is worth is what the hold of that sum in a sandbox is worth. -/
noncomputable def Try.pinned : Pinned := { name := "ytcmhffjcicolcaa", sum := "896287a4b50e210c654b214615c10f64b6c6129e00f1687108e7f3a56302aeeb", checked := Try.checked }
namespace Rows
def none {H : Type} : Left H := { results := [], args := [] }

/-- 'arboristlaw54.PrettydocRight': WHATEVER THE INPUT: true; the input reads as it did. -/
def prettydocRightSpec : ChangeSpec := { name := "prettydocRight", fn := fun _ => fun
  | [d] => { results := [.lit (.bool true)], args := [d] }
  | _ => none }
def prettydocRightRow : OpenClaim := { program := "ytcmhffjcicolcaa", sum := "896287a4b50e210c654b214615c10f64b6c6129e00f1687108e7f3a56302aeeb", func := "arborist/arboristlaw54.PrettydocRight", spec := "prettydocRight", inPlace := ["internal/bytealg.IndexByteString", "internal/abi.NoEscape"], unfollowed := true, recurses := true, loops := true, apart := false }
def PrettydocRightSaid : Prop := prettydocRightRow.holds Try.pinned (OpenSpec.ofChange prettydocRightSpec)

/-- ITS FALSE NEIGHBOUR: 'it returns false'. Refute it at one input. -/
def prettydocRightWrong : ChangeSpec := { name := "prettydocRight", fn := fun _ => fun
  | [d] => { results := [.lit (.bool false)], args := [d] }
  | _ => none }
def PrettydocRightWrongFalsely : Prop := prettydocRightRow.holds Try.pinned (OpenSpec.ofChange prettydocRightWrong)

/-- 'arboristlaw54.PrettydocDeep': WHATEVER THE INPUT: true; the input reads as it did. -/
def prettydocDeepSpec : ChangeSpec := { name := "prettydocDeep", fn := fun _ => fun
  | [d1, d2] => { results := [.lit (.bool true)], args := [d1, d2] }
  | _ => none }
def prettydocDeepRow : OpenClaim := { program := "ytcmhffjcicolcaa", sum := "896287a4b50e210c654b214615c10f64b6c6129e00f1687108e7f3a56302aeeb", func := "arborist/arboristlaw54.PrettydocDeep", spec := "prettydocDeep", inPlace := ["internal/bytealg.IndexByteString", "internal/abi.NoEscape"], unfollowed := true, recurses := true, loops := true, apart := false }
def PrettydocDeepSaid : Prop := prettydocDeepRow.holds Try.pinned (OpenSpec.ofChange prettydocDeepSpec)

/-- ITS FALSE NEIGHBOUR: 'it returns false'. Refute it at one input. -/
def prettydocDeepWrong : ChangeSpec := { name := "prettydocDeep", fn := fun _ => fun
  | [d1, d2] => { results := [.lit (.bool false)], args := [d1, d2] }
  | _ => none }
def PrettydocDeepWrongFalsely : Prop := prettydocDeepRow.holds Try.pinned (OpenSpec.ofChange prettydocDeepWrong)

/-- 'arboristlaw54.PrettydocSame': WHATEVER THE INPUT: true; the input reads as it did. -/
def prettydocSameSpec : ChangeSpec := { name := "prettydocSame", fn := fun _ => fun
  | [d1, d2] => { results := [.lit (.bool true)], args := [d1, d2] }
  | _ => none }
def prettydocSameRow : OpenClaim := { program := "ytcmhffjcicolcaa", sum := "896287a4b50e210c654b214615c10f64b6c6129e00f1687108e7f3a56302aeeb", func := "arborist/arboristlaw54.PrettydocSame", spec := "prettydocSame", inPlace := ["internal/bytealg.IndexByteString", "internal/abi.NoEscape"], unfollowed := true, recurses := true, loops := true, apart := false }
def PrettydocSameSaid : Prop := prettydocSameRow.holds Try.pinned (OpenSpec.ofChange prettydocSameSpec)

/-- ITS FALSE NEIGHBOUR: 'it returns false'. Refute it at one input. -/
def prettydocSameWrong : ChangeSpec := { name := "prettydocSame", fn := fun _ => fun
  | [d1, d2] => { results := [.lit (.bool false)], args := [d1, d2] }
  | _ => none }
def PrettydocSameWrongFalsely : Prop := prettydocSameRow.holds Try.pinned (OpenSpec.ofChange prettydocSameWrong)

/-- 'arboristlaw54.PrettydocFlat': WHATEVER THE INPUT: true; the input reads as it did. -/
def prettydocFlatSpec : ChangeSpec := { name := "prettydocFlat", fn := fun _ => fun
  | [d] => { results := [.lit (.bool true)], args := [d] }
  | _ => none }
def prettydocFlatRow : OpenClaim := { program := "ytcmhffjcicolcaa", sum := "896287a4b50e210c654b214615c10f64b6c6129e00f1687108e7f3a56302aeeb", func := "arborist/arboristlaw54.PrettydocFlat", spec := "prettydocFlat", inPlace := ["internal/bytealg.IndexByteString", "internal/abi.NoEscape"], unfollowed := true, recurses := true, loops := true, apart := false }
def PrettydocFlatSaid : Prop := prettydocFlatRow.holds Try.pinned (OpenSpec.ofChange prettydocFlatSpec)

/-- ITS FALSE NEIGHBOUR: 'it returns false'. Refute it at one input. -/
def prettydocFlatWrong : ChangeSpec := { name := "prettydocFlat", fn := fun _ => fun
  | [d] => { results := [.lit (.bool false)], args := [d] }
  | _ => none }
def PrettydocFlatWrongFalsely : Prop := prettydocFlatRow.holds Try.pinned (OpenSpec.ofChange prettydocFlatWrong)

/-- 'arboristlaw54.PrettydocMade': WHATEVER THE INPUT: true; the input reads as it did. -/
def prettydocMadeSpec : ChangeSpec := { name := "prettydocMade", fn := fun _ => fun
  | [d1, d2, d3] => { results := [.lit (.bool true)], args := [d1, d2, d3] }
  | _ => none }
def prettydocMadeRow : OpenClaim := { program := "ytcmhffjcicolcaa", sum := "896287a4b50e210c654b214615c10f64b6c6129e00f1687108e7f3a56302aeeb", func := "arborist/arboristlaw54.PrettydocMade", spec := "prettydocMade", inPlace := ["internal/bytealg.IndexByteString", "internal/abi.NoEscape"], unfollowed := true, recurses := true, loops := true, apart := false }
def PrettydocMadeSaid : Prop := prettydocMadeRow.holds Try.pinned (OpenSpec.ofChange prettydocMadeSpec)

/-- ITS FALSE NEIGHBOUR: 'it returns false'. Refute it at one input. -/
def prettydocMadeWrong : ChangeSpec := { name := "prettydocMade", fn := fun _ => fun
  | [d1, d2, d3] => { results := [.lit (.bool false)], args := [d1, d2, d3] }
  | _ => none }
def PrettydocMadeWrongFalsely : Prop := prettydocMadeRow.holds Try.pinned (OpenSpec.ofChange prettydocMadeWrong)

/-- 'arboristlaw54.PrettydocJoins': WHATEVER THE INPUT: true; the input reads as it did. -/
def prettydocJoinsSpec : ChangeSpec := { name := "prettydocJoins", fn := fun _ => fun
  | [d1, d2, d3] => { results := [.lit (.bool true)], args := [d1, d2, d3] }
  | _ => none }
def prettydocJoinsRow : OpenClaim := { program := "ytcmhffjcicolcaa", sum := "896287a4b50e210c654b214615c10f64b6c6129e00f1687108e7f3a56302aeeb", func := "arborist/arboristlaw54.PrettydocJoins", spec := "prettydocJoins", inPlace := ["internal/bytealg.IndexByteString", "internal/abi.NoEscape"], unfollowed := true, recurses := true, loops := true, apart := false }
def PrettydocJoinsSaid : Prop := prettydocJoinsRow.holds Try.pinned (OpenSpec.ofChange prettydocJoinsSpec)

/-- ITS FALSE NEIGHBOUR: 'it returns false'. Refute it at one input. -/
def prettydocJoinsWrong : ChangeSpec := { name := "prettydocJoins", fn := fun _ => fun
  | [d1, d2, d3] => { results := [.lit (.bool false)], args := [d1, d2, d3] }
  | _ => none }
def PrettydocJoinsWrongFalsely : Prop := prettydocJoinsRow.holds Try.pinned (OpenSpec.ofChange prettydocJoinsWrong)

/- THE SECOND FORM. 'bulk': how many values and letters a reading holds, each counted each time it is reached (what is shared counts as often as it is met; a slice's spare places count too). A statement '..UptoSaid' is the law's where the arguments, and the package variables that the reading takes, are together of bulk at most 1048576: NARROWER than '..Said'. Prove '..Said' where nothing that the law and all that it calls make is longer than what came in: it says more and counts as full. Else prove '..UptoSaid'. A law counts once. -/
mutual
def uptoBulk {H : Type} : DataW H → Nat
  | .lit (.string bytes) => bytes.length + 1
  | .lit _ => 1
  | .nil => 1
  | .ptr d => uptoBulk d + 1
  | .slice elems spare => uptoBulkAll elems + uptoBulkAll spare + 1
  | .agg parts => uptoBulkAll parts + 1
  | .iface _ d => uptoBulk d + 1
  | .map entries => uptoBulkEntries entries + 1
  | .held _ => 1
def uptoBulkAll {H : Type} : List (DataW H) → Nat
  | [] => 0
  | d :: r => uptoBulk d + uptoBulkAll r
def uptoBulkEntries {H : Type} : List (Lit × DataW H) → Nat
  | [] => 0
  | x :: r => uptoBulkEntry x + uptoBulkEntries r
def uptoBulkEntry {H : Type} : Lit × DataW H → Nat
  | (.string bytes, d) => bytes.length + uptoBulk d + 1
  | (_, d) => uptoBulk d + 1
 end
def uptoSmall : (H : Type) → List (DataW H) → Bool := fun _ ds => decide (uptoBulkAll ds ≤ 1048576)
def OpenSpec.upto (s : _root_.Go.ChangeSpec) : _root_.Go.OpenSpec := { _root_.Go.OpenSpec.ofChange s with cond := some uptoSmall }

/-- 'arboristlaw54.PrettydocRight', WHERE WHAT IT READS IS OF BULK AT MOST 1048576: true; the input reads as it did. -/
def prettydocRightUptoRow : OpenClaim := { program := "ytcmhffjcicolcaa", sum := "896287a4b50e210c654b214615c10f64b6c6129e00f1687108e7f3a56302aeeb", func := "arborist/arboristlaw54.PrettydocRight", spec := "prettydocRight", inPlace := ["internal/bytealg.IndexByteString", "internal/abi.NoEscape"], unfollowed := true, recurses := true, loops := true, apart := false, narrowed := true }
def PrettydocRightUptoSaid : Prop := prettydocRightUptoRow.holds Try.pinned (OpenSpec.upto prettydocRightSpec)

/-- 'arboristlaw54.PrettydocDeep', WHERE WHAT IT READS IS OF BULK AT MOST 1048576: true; the input reads as it did. -/
def prettydocDeepUptoRow : OpenClaim := { program := "ytcmhffjcicolcaa", sum := "896287a4b50e210c654b214615c10f64b6c6129e00f1687108e7f3a56302aeeb", func := "arborist/arboristlaw54.PrettydocDeep", spec := "prettydocDeep", inPlace := ["internal/bytealg.IndexByteString", "internal/abi.NoEscape"], unfollowed := true, recurses := true, loops := true, apart := false, narrowed := true }
def PrettydocDeepUptoSaid : Prop := prettydocDeepUptoRow.holds Try.pinned (OpenSpec.upto prettydocDeepSpec)

/-- 'arboristlaw54.PrettydocSame', WHERE WHAT IT READS IS OF BULK AT MOST 1048576: true; the input reads as it did. -/
def prettydocSameUptoRow : OpenClaim := { program := "ytcmhffjcicolcaa", sum := "896287a4b50e210c654b214615c10f64b6c6129e00f1687108e7f3a56302aeeb", func := "arborist/arboristlaw54.PrettydocSame", spec := "prettydocSame", inPlace := ["internal/bytealg.IndexByteString", "internal/abi.NoEscape"], unfollowed := true, recurses := true, loops := true, apart := false, narrowed := true }
def PrettydocSameUptoSaid : Prop := prettydocSameUptoRow.holds Try.pinned (OpenSpec.upto prettydocSameSpec)

/-- 'arboristlaw54.PrettydocFlat', WHERE WHAT IT READS IS OF BULK AT MOST 1048576: true; the input reads as it did. -/
def prettydocFlatUptoRow : OpenClaim := { program := "ytcmhffjcicolcaa", sum := "896287a4b50e210c654b214615c10f64b6c6129e00f1687108e7f3a56302aeeb", func := "arborist/arboristlaw54.PrettydocFlat", spec := "prettydocFlat", inPlace := ["internal/bytealg.IndexByteString", "internal/abi.NoEscape"], unfollowed := true, recurses := true, loops := true, apart := false, narrowed := true }
def PrettydocFlatUptoSaid : Prop := prettydocFlatUptoRow.holds Try.pinned (OpenSpec.upto prettydocFlatSpec)

/-- 'arboristlaw54.PrettydocMade', WHERE WHAT IT READS IS OF BULK AT MOST 1048576: true; the input reads as it did. -/
def prettydocMadeUptoRow : OpenClaim := { program := "ytcmhffjcicolcaa", sum := "896287a4b50e210c654b214615c10f64b6c6129e00f1687108e7f3a56302aeeb", func := "arborist/arboristlaw54.PrettydocMade", spec := "prettydocMade", inPlace := ["internal/bytealg.IndexByteString", "internal/abi.NoEscape"], unfollowed := true, recurses := true, loops := true, apart := false, narrowed := true }
def PrettydocMadeUptoSaid : Prop := prettydocMadeUptoRow.holds Try.pinned (OpenSpec.upto prettydocMadeSpec)

/-- 'arboristlaw54.PrettydocJoins', WHERE WHAT IT READS IS OF BULK AT MOST 1048576: true; the input reads as it did. -/
def prettydocJoinsUptoRow : OpenClaim := { program := "ytcmhffjcicolcaa", sum := "896287a4b50e210c654b214615c10f64b6c6129e00f1687108e7f3a56302aeeb", func := "arborist/arboristlaw54.PrettydocJoins", spec := "prettydocJoins", inPlace := ["internal/bytealg.IndexByteString", "internal/abi.NoEscape"], unfollowed := true, recurses := true, loops := true, apart := false, narrowed := true }
def PrettydocJoinsUptoSaid : Prop := prettydocJoinsUptoRow.holds Try.pinned (OpenSpec.upto prettydocJoinsSpec)

end Rows
end Go.Proofs.Ytcmhffjcicolcaa
