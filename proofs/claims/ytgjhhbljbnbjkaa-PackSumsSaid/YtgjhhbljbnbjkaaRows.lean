/-
  No cell of these rows narrows 'for every input' (looked for: loops, veiled, ifaces, maps, wideKeys, modest, calm, conditions, laid).
  DERIVED. THE GIVEN ROWS OF THIS SEAT. 6 by the template 'for every input the law returns true; each argument reads behind the call as it read before'; 0 by the template 'total and deterministic' (their statements: YtgjhhbljbnbjkaaTotals.lean).
  GIVEN WITH THE SEED: the statements are not yours to turn. If you find one false, say at which input.
  Laid BY PROGRAM, IN A SANDBOX (cutbox-rows.mjs): the forced cells as the released guide's own fill.sh prints them over the translation 67a39e854d6c4975… (all of the seat's roots in one cut). By AI agents, Wed Nov 11 2026. No macro, syntax, notation, axiom, sorry.
-/
import Derived.Test.YtgjhhbljbnbjkaaChecked
import GoSem.Claim
import GoSem.ClaimJoined
import GoSem.ClaimMapViews
import Derived.JoinedTies
import Derived.KernelRfl
namespace Go.Proofs.Ytgjhhbljbnbjkaa
/- THE CELL 'sum', in the pinned program and in every row, IS THE sha256 OF THE DUMP (.gsa) THAT YtgjhhbljbnbjkaaProg.lean LOADS. Nothing in Lean hashes anything: it is a label: what it is worth is what the hold of that sum in a sandbox is worth. -/
noncomputable def Try.pinned : Pinned := { name := "ytgjhhbljbnbjkaa", sum := "67a39e854d6c4975e1cc2fa46139383bc3fea3d9c80e20ea871d906620a97d1d", checked := Try.checked }
namespace Rows
def none {H : Type} : Left H := { results := [], args := [] }

/-- 'cisternlaw03.PackJoins': WHATEVER THE INPUT: true; the input reads as it did. -/
def packJoinsSpec : ChangeSpec := { name := "packJoins", fn := fun _ => fun
  | [d1, d2] => { results := [.lit (.bool true)], args := [d1, d2] }
  | _ => none }
def packJoinsRow : OpenClaim := { program := "ytgjhhbljbnbjkaa", sum := "67a39e854d6c4975e1cc2fa46139383bc3fea3d9c80e20ea871d906620a97d1d", func := "cistern/cisternlaw03.PackJoins", spec := "packJoins", unfollowed := true, recurses := true, apart := false }
def PackJoinsSaid : Prop := packJoinsRow.holds Try.pinned (OpenSpec.ofChange packJoinsSpec)

/-- ITS FALSE NEIGHBOUR: 'it returns false'. Refute it at one input. -/
def packJoinsWrong : ChangeSpec := { name := "packJoins", fn := fun _ => fun
  | [d1, d2] => { results := [.lit (.bool false)], args := [d1, d2] }
  | _ => none }
def PackJoinsWrongFalsely : Prop := packJoinsRow.holds Try.pinned (OpenSpec.ofChange packJoinsWrong)

/-- 'cisternlaw03.PackSums': WHATEVER THE INPUT: true; the input reads as it did. -/
def packSumsSpec : ChangeSpec := { name := "packSums", fn := fun _ => fun
  | [d] => { results := [.lit (.bool true)], args := [d] }
  | _ => none }
def packSumsRow : OpenClaim := { program := "ytgjhhbljbnbjkaa", sum := "67a39e854d6c4975e1cc2fa46139383bc3fea3d9c80e20ea871d906620a97d1d", func := "cistern/cisternlaw03.PackSums", spec := "packSums", unfollowed := true, recurses := true, apart := false }
def PackSumsSaid : Prop := packSumsRow.holds Try.pinned (OpenSpec.ofChange packSumsSpec)

/-- ITS FALSE NEIGHBOUR: 'it returns false'. Refute it at one input. -/
def packSumsWrong : ChangeSpec := { name := "packSums", fn := fun _ => fun
  | [d] => { results := [.lit (.bool false)], args := [d] }
  | _ => none }
def PackSumsWrongFalsely : Prop := packSumsRow.holds Try.pinned (OpenSpec.ofChange packSumsWrong)

/-- 'cisternlaw03.PackTurned': WHATEVER THE INPUT: true; the input reads as it did. -/
def packTurnedSpec : ChangeSpec := { name := "packTurned", fn := fun _ => fun
  | [d1, d2, d3] => { results := [.lit (.bool true)], args := [d1, d2, d3] }
  | _ => none }
def packTurnedRow : OpenClaim := { program := "ytgjhhbljbnbjkaa", sum := "67a39e854d6c4975e1cc2fa46139383bc3fea3d9c80e20ea871d906620a97d1d", func := "cistern/cisternlaw03.PackTurned", spec := "packTurned", unfollowed := true, recurses := true, apart := false }
def PackTurnedSaid : Prop := packTurnedRow.holds Try.pinned (OpenSpec.ofChange packTurnedSpec)

/-- ITS FALSE NEIGHBOUR: 'it returns false'. Refute it at one input. -/
def packTurnedWrong : ChangeSpec := { name := "packTurned", fn := fun _ => fun
  | [d1, d2, d3] => { results := [.lit (.bool false)], args := [d1, d2, d3] }
  | _ => none }
def PackTurnedWrongFalsely : Prop := packTurnedRow.holds Try.pinned (OpenSpec.ofChange packTurnedWrong)

/-- 'cisternlaw03.PackRecords': WHATEVER THE INPUT: true; the input reads as it did. -/
def packRecordsSpec : ChangeSpec := { name := "packRecords", fn := fun _ => fun
  | [d1, d2] => { results := [.lit (.bool true)], args := [d1, d2] }
  | _ => none }
def packRecordsRow : OpenClaim := { program := "ytgjhhbljbnbjkaa", sum := "67a39e854d6c4975e1cc2fa46139383bc3fea3d9c80e20ea871d906620a97d1d", func := "cistern/cisternlaw03.PackRecords", spec := "packRecords", unfollowed := true, recurses := true, apart := false }
def PackRecordsSaid : Prop := packRecordsRow.holds Try.pinned (OpenSpec.ofChange packRecordsSpec)

/-- ITS FALSE NEIGHBOUR: 'it returns false'. Refute it at one input. -/
def packRecordsWrong : ChangeSpec := { name := "packRecords", fn := fun _ => fun
  | [d1, d2] => { results := [.lit (.bool false)], args := [d1, d2] }
  | _ => none }
def PackRecordsWrongFalsely : Prop := packRecordsRow.holds Try.pinned (OpenSpec.ofChange packRecordsWrong)

/-- 'cisternlaw03.PackInverse': WHATEVER THE INPUT: true; the input reads as it did. -/
def packInverseSpec : ChangeSpec := { name := "packInverse", fn := fun _ => fun
  | [d1, d2, d3] => { results := [.lit (.bool true)], args := [d1, d2, d3] }
  | _ => none }
def packInverseRow : OpenClaim := { program := "ytgjhhbljbnbjkaa", sum := "67a39e854d6c4975e1cc2fa46139383bc3fea3d9c80e20ea871d906620a97d1d", func := "cistern/cisternlaw03.PackInverse", spec := "packInverse", unfollowed := true, recurses := true, apart := false }
def PackInverseSaid : Prop := packInverseRow.holds Try.pinned (OpenSpec.ofChange packInverseSpec)

/-- ITS FALSE NEIGHBOUR: 'it returns false'. Refute it at one input. -/
def packInverseWrong : ChangeSpec := { name := "packInverse", fn := fun _ => fun
  | [d1, d2, d3] => { results := [.lit (.bool false)], args := [d1, d2, d3] }
  | _ => none }
def PackInverseWrongFalsely : Prop := packInverseRow.holds Try.pinned (OpenSpec.ofChange packInverseWrong)

/-- 'cisternlaw03.PackNumbers': WHATEVER THE INPUT: true; the input reads as it did. -/
def packNumbersSpec : ChangeSpec := { name := "packNumbers", fn := fun _ => fun
  | [d1, d2] => { results := [.lit (.bool true)], args := [d1, d2] }
  | _ => none }
def packNumbersRow : OpenClaim := { program := "ytgjhhbljbnbjkaa", sum := "67a39e854d6c4975e1cc2fa46139383bc3fea3d9c80e20ea871d906620a97d1d", func := "cistern/cisternlaw03.PackNumbers", spec := "packNumbers", unfollowed := true, recurses := true, apart := false }
def PackNumbersSaid : Prop := packNumbersRow.holds Try.pinned (OpenSpec.ofChange packNumbersSpec)

/-- ITS FALSE NEIGHBOUR: 'it returns false'. Refute it at one input. -/
def packNumbersWrong : ChangeSpec := { name := "packNumbers", fn := fun _ => fun
  | [d1, d2] => { results := [.lit (.bool false)], args := [d1, d2] }
  | _ => none }
def PackNumbersWrongFalsely : Prop := packNumbersRow.holds Try.pinned (OpenSpec.ofChange packNumbersWrong)

/- THE SECOND FORM. 'bulk': how many values and letters a reading holds, each counted each time it is reached (what is shared counts as often as it is met; a slice's spare places count too). A statement '..UptoSaid' is the law's where the arguments, and the package variables that the reading takes, are together of bulk at most 1048576: NARROWER than '..Said'. Prove '..Said' where nothing that the law and all that it calls make is longer than what came in: it says more and counts as full. Else prove '..UptoSaid'. A law counts once. -/
mutual
def uptoBulk {H : Type} : DataW H → Nat
  | .lit (.string bytes) => bytes.length + 1
  | .lit _ => 1
  | .nil => 1
  | .ptr d => uptoBulk d + 1
  | .slice elems spare => uptoBulkAll elems + uptoBulkAll spare + 1
  | .agg parts => uptoBulkAll parts + 1
  | .iface _ d => uptoBulk d + 1
  | .map entries => uptoBulkEntries entries + 1
  | .held _ => 1
def uptoBulkAll {H : Type} : List (DataW H) → Nat
  | [] => 0
  | d :: r => uptoBulk d + uptoBulkAll r
def uptoBulkEntries {H : Type} : List (Lit × DataW H) → Nat
  | [] => 0
  | x :: r => uptoBulkEntry x + uptoBulkEntries r
def uptoBulkEntry {H : Type} : Lit × DataW H → Nat
  | (.string bytes, d) => bytes.length + uptoBulk d + 1
  | (_, d) => uptoBulk d + 1
 end
def uptoSmall : (H : Type) → List (DataW H) → Bool := fun _ ds => decide (uptoBulkAll ds ≤ 1048576)
def OpenSpec.upto (s : _root_.Go.ChangeSpec) : _root_.Go.OpenSpec := { _root_.Go.OpenSpec.ofChange s with cond := some uptoSmall }

/-- 'cisternlaw03.PackJoins', WHERE WHAT IT READS IS OF BULK AT MOST 1048576: true; the input reads as it did. -/
def packJoinsUptoRow : OpenClaim := { program := "ytgjhhbljbnbjkaa", sum := "67a39e854d6c4975e1cc2fa46139383bc3fea3d9c80e20ea871d906620a97d1d", func := "cistern/cisternlaw03.PackJoins", spec := "packJoins", unfollowed := true, recurses := true, apart := false, narrowed := true }
def PackJoinsUptoSaid : Prop := packJoinsUptoRow.holds Try.pinned (OpenSpec.upto packJoinsSpec)

/-- 'cisternlaw03.PackSums', WHERE WHAT IT READS IS OF BULK AT MOST 1048576: true; the input reads as it did. -/
def packSumsUptoRow : OpenClaim := { program := "ytgjhhbljbnbjkaa", sum := "67a39e854d6c4975e1cc2fa46139383bc3fea3d9c80e20ea871d906620a97d1d", func := "cistern/cisternlaw03.PackSums", spec := "packSums", unfollowed := true, recurses := true, apart := false, narrowed := true }
def PackSumsUptoSaid : Prop := packSumsUptoRow.holds Try.pinned (OpenSpec.upto packSumsSpec)

/-- 'cisternlaw03.PackTurned', WHERE WHAT IT READS IS OF BULK AT MOST 1048576: true; the input reads as it did. -/
def packTurnedUptoRow : OpenClaim := { program := "ytgjhhbljbnbjkaa", sum := "67a39e854d6c4975e1cc2fa46139383bc3fea3d9c80e20ea871d906620a97d1d", func := "cistern/cisternlaw03.PackTurned", spec := "packTurned", unfollowed := true, recurses := true, apart := false, narrowed := true }
def PackTurnedUptoSaid : Prop := packTurnedUptoRow.holds Try.pinned (OpenSpec.upto packTurnedSpec)

/-- 'cisternlaw03.PackRecords', WHERE WHAT IT READS IS OF BULK AT MOST 1048576: true; the input reads as it did. -/
def packRecordsUptoRow : OpenClaim := { program := "ytgjhhbljbnbjkaa", sum := "67a39e854d6c4975e1cc2fa46139383bc3fea3d9c80e20ea871d906620a97d1d", func := "cistern/cisternlaw03.PackRecords", spec := "packRecords", unfollowed := true, recurses := true, apart := false, narrowed := true }
def PackRecordsUptoSaid : Prop := packRecordsUptoRow.holds Try.pinned (OpenSpec.upto packRecordsSpec)

/-- 'cisternlaw03.PackInverse', WHERE WHAT IT READS IS OF BULK AT MOST 1048576: true; the input reads as it did. -/
def packInverseUptoRow : OpenClaim := { program := "ytgjhhbljbnbjkaa", sum := "67a39e854d6c4975e1cc2fa46139383bc3fea3d9c80e20ea871d906620a97d1d", func := "cistern/cisternlaw03.PackInverse", spec := "packInverse", unfollowed := true, recurses := true, apart := false, narrowed := true }
def PackInverseUptoSaid : Prop := packInverseUptoRow.holds Try.pinned (OpenSpec.upto packInverseSpec)

/-- 'cisternlaw03.PackNumbers', WHERE WHAT IT READS IS OF BULK AT MOST 1048576: true; the input reads as it did. -/
def packNumbersUptoRow : OpenClaim := { program := "ytgjhhbljbnbjkaa", sum := "67a39e854d6c4975e1cc2fa46139383bc3fea3d9c80e20ea871d906620a97d1d", func := "cistern/cisternlaw03.PackNumbers", spec := "packNumbers", unfollowed := true, recurses := true, apart := false, narrowed := true }
def PackNumbersUptoSaid : Prop := packNumbersUptoRow.holds Try.pinned (OpenSpec.upto packNumbersSpec)

end Rows
end Go.Proofs.Ytgjhhbljbnbjkaa
