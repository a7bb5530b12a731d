/-
  No cell of these rows narrows 'for every input' (looked for: loops, veiled, ifaces, maps, wideKeys, modest, calm, conditions, laid).
  DERIVED. THE GIVEN ROWS OF THIS SEAT. 9 by the template 'for every input the law returns true; each argument reads behind the call as it read before'; 0 by the template 'total and deterministic' (their statements: YtjjfeoigjhbbpaaTotals.lean).
  GIVEN WITH THE SEED: the statements are not yours to turn. If you find one false, say at which input.
  Laid BY PROGRAM, IN A SANDBOX (cutbox-rows.mjs): the forced cells as the released guide's own fill.sh prints them over the translation b5f2c3a7eda8f8ed… (all of the seat's roots in one cut). By AI agents, Wed Nov 11 2026. No macro, syntax, notation, axiom, sorry.
-/
import Derived.Test.YtjjfeoigjhbbpaaChecked
import GoSem.Claim
import GoSem.ClaimJoined
import GoSem.ClaimMapViews
import Derived.JoinedTies
import Derived.KernelRfl
namespace Go.Proofs.Ytjjfeoigjhbbpaa
/- THE CELL 'sum', in the pinned program and in every row, IS THE sha256 OF THE DUMP (.gsa) THAT YtjjfeoigjhbbpaaProg.lean LOADS. Nothing in Lean hashes anything: it is a label: what it is worth is what the hold of that sum in a sandbox is worth. -/
noncomputable def Try.pinned : Pinned := { name := "ytjjfeoigjhbbpaa", sum := "b5f2c3a7eda8f8ed4b524daef14c34e064e8ff3cff88296967ed8650624aaa3a", checked := Try.checked }
namespace Rows
def none {H : Type} : Left H := { results := [], args := [] }

/-- 'cisternlaw11.NodeFits': WHATEVER THE INPUT: true; the input reads as it did. -/
def nodeFitsSpec : ChangeSpec := { name := "nodeFits", fn := fun _ => fun
  | [d] => { results := [.lit (.bool true)], args := [d] }
  | _ => none }
def nodeFitsRow : OpenClaim := { program := "ytjjfeoigjhbbpaa", sum := "b5f2c3a7eda8f8ed4b524daef14c34e064e8ff3cff88296967ed8650624aaa3a", func := "cistern/cisternlaw11.NodeFits", spec := "nodeFits", inPlace := ["internal/abi.NoEscape"], unfollowed := true, recurses := true, apart := false }
def NodeFitsSaid : Prop := nodeFitsRow.holds Try.pinned (OpenSpec.ofChange nodeFitsSpec)

/-- ITS FALSE NEIGHBOUR: 'it returns false'. Refute it at one input. -/
def nodeFitsWrong : ChangeSpec := { name := "nodeFits", fn := fun _ => fun
  | [d] => { results := [.lit (.bool false)], args := [d] }
  | _ => none }
def NodeFitsWrongFalsely : Prop := nodeFitsRow.holds Try.pinned (OpenSpec.ofChange nodeFitsWrong)

/-- 'cisternlaw11.NodeHalves': WHATEVER THE INPUT: true; the input reads as it did. -/
def nodeHalvesSpec : ChangeSpec := { name := "nodeHalves", fn := fun _ => fun
  | [d1, d2, d3] => { results := [.lit (.bool true)], args := [d1, d2, d3] }
  | _ => none }
def nodeHalvesRow : OpenClaim := { program := "ytjjfeoigjhbbpaa", sum := "b5f2c3a7eda8f8ed4b524daef14c34e064e8ff3cff88296967ed8650624aaa3a", func := "cistern/cisternlaw11.NodeHalves", spec := "nodeHalves", inPlace := ["internal/abi.NoEscape"], unfollowed := true, recurses := true, apart := false }
def NodeHalvesSaid : Prop := nodeHalvesRow.holds Try.pinned (OpenSpec.ofChange nodeHalvesSpec)

/-- ITS FALSE NEIGHBOUR: 'it returns false'. Refute it at one input. -/
def nodeHalvesWrong : ChangeSpec := { name := "nodeHalves", fn := fun _ => fun
  | [d1, d2, d3] => { results := [.lit (.bool false)], args := [d1, d2, d3] }
  | _ => none }
def NodeHalvesWrongFalsely : Prop := nodeHalvesRow.holds Try.pinned (OpenSpec.ofChange nodeHalvesWrong)

/-- 'cisternlaw11.NodeWhole': WHATEVER THE INPUT: true; the input reads as it did. -/
def nodeWholeSpec : ChangeSpec := { name := "nodeWhole", fn := fun _ => fun
  | [d] => { results := [.lit (.bool true)], args := [d] }
  | _ => none }
def nodeWholeRow : OpenClaim := { program := "ytjjfeoigjhbbpaa", sum := "b5f2c3a7eda8f8ed4b524daef14c34e064e8ff3cff88296967ed8650624aaa3a", func := "cistern/cisternlaw11.NodeWhole", spec := "nodeWhole", inPlace := ["internal/abi.NoEscape"], unfollowed := true, recurses := true, apart := false }
def NodeWholeSaid : Prop := nodeWholeRow.holds Try.pinned (OpenSpec.ofChange nodeWholeSpec)

/-- ITS FALSE NEIGHBOUR: 'it returns false'. Refute it at one input. -/
def nodeWholeWrong : ChangeSpec := { name := "nodeWhole", fn := fun _ => fun
  | [d] => { results := [.lit (.bool false)], args := [d] }
  | _ => none }
def NodeWholeWrongFalsely : Prop := nodeWholeRow.holds Try.pinned (OpenSpec.ofChange nodeWholeWrong)

/-- 'cisternlaw11.NodePages': WHATEVER THE INPUT: true; the input reads as it did. -/
def nodePagesSpec : ChangeSpec := { name := "nodePages", fn := fun _ => fun
  | [d1, d2] => { results := [.lit (.bool true)], args := [d1, d2] }
  | _ => none }
def nodePagesRow : OpenClaim := { program := "ytjjfeoigjhbbpaa", sum := "b5f2c3a7eda8f8ed4b524daef14c34e064e8ff3cff88296967ed8650624aaa3a", func := "cistern/cisternlaw11.NodePages", spec := "nodePages", inPlace := ["internal/abi.NoEscape", "internal/bytealg.MakeNoZero"], unfollowed := true, recurses := true, apart := false }
def NodePagesSaid : Prop := nodePagesRow.holds Try.pinned (OpenSpec.ofChange nodePagesSpec)

/-- ITS FALSE NEIGHBOUR: 'it returns false'. Refute it at one input. -/
def nodePagesWrong : ChangeSpec := { name := "nodePages", fn := fun _ => fun
  | [d1, d2] => { results := [.lit (.bool false)], args := [d1, d2] }
  | _ => none }
def NodePagesWrongFalsely : Prop := nodePagesRow.holds Try.pinned (OpenSpec.ofChange nodePagesWrong)

/-- 'cisternlaw11.NodeInverse': WHATEVER THE INPUT: true; the input reads as it did. -/
def nodeInverseSpec : ChangeSpec := { name := "nodeInverse", fn := fun _ => fun
  | [d1, d2] => { results := [.lit (.bool true)], args := [d1, d2] }
  | _ => none }
def nodeInverseRow : OpenClaim := { program := "ytjjfeoigjhbbpaa", sum := "b5f2c3a7eda8f8ed4b524daef14c34e064e8ff3cff88296967ed8650624aaa3a", func := "cistern/cisternlaw11.NodeInverse", spec := "nodeInverse", inPlace := ["internal/abi.NoEscape", "internal/bytealg.MakeNoZero"], unfollowed := true, recurses := true, apart := false }
def NodeInverseSaid : Prop := nodeInverseRow.holds Try.pinned (OpenSpec.ofChange nodeInverseSpec)

/-- ITS FALSE NEIGHBOUR: 'it returns false'. Refute it at one input. -/
def nodeInverseWrong : ChangeSpec := { name := "nodeInverse", fn := fun _ => fun
  | [d1, d2] => { results := [.lit (.bool false)], args := [d1, d2] }
  | _ => none }
def NodeInverseWrongFalsely : Prop := nodeInverseRow.holds Try.pinned (OpenSpec.ofChange nodeInverseWrong)

/-- 'cisternlaw11.NodeGrows': WHATEVER THE INPUT: true; the input reads as it did. -/
def nodeGrowsSpec : ChangeSpec := { name := "nodeGrows", fn := fun _ => fun
  | [d1, d2] => { results := [.lit (.bool true)], args := [d1, d2] }
  | _ => none }
def nodeGrowsRow : OpenClaim := { program := "ytjjfeoigjhbbpaa", sum := "b5f2c3a7eda8f8ed4b524daef14c34e064e8ff3cff88296967ed8650624aaa3a", func := "cistern/cisternlaw11.NodeGrows", spec := "nodeGrows", inPlace := ["internal/abi.NoEscape", "slices.overlaps[cistern/api.Pair]"], unfollowed := true, recurses := true, apart := false }
def NodeGrowsSaid : Prop := nodeGrowsRow.holds Try.pinned (OpenSpec.ofChange nodeGrowsSpec)

/-- ITS FALSE NEIGHBOUR: 'it returns false'. Refute it at one input. -/
def nodeGrowsWrong : ChangeSpec := { name := "nodeGrows", fn := fun _ => fun
  | [d1, d2] => { results := [.lit (.bool false)], args := [d1, d2] }
  | _ => none }
def NodeGrowsWrongFalsely : Prop := nodeGrowsRow.holds Try.pinned (OpenSpec.ofChange nodeGrowsWrong)

/-- 'cisternlaw11.NodeEdits': WHATEVER THE INPUT: true; the input reads as it did. -/
def nodeEditsSpec : ChangeSpec := { name := "nodeEdits", fn := fun _ => fun
  | [d1, d2, d3] => { results := [.lit (.bool true)], args := [d1, d2, d3] }
  | _ => none }
def nodeEditsRow : OpenClaim := { program := "ytjjfeoigjhbbpaa", sum := "b5f2c3a7eda8f8ed4b524daef14c34e064e8ff3cff88296967ed8650624aaa3a", func := "cistern/cisternlaw11.NodeEdits", spec := "nodeEdits", inPlace := ["internal/abi.NoEscape", "slices.overlaps[cistern/api.Pair]"], unfollowed := true, recurses := true, apart := false }
def NodeEditsSaid : Prop := nodeEditsRow.holds Try.pinned (OpenSpec.ofChange nodeEditsSpec)

/-- ITS FALSE NEIGHBOUR: 'it returns false'. Refute it at one input. -/
def nodeEditsWrong : ChangeSpec := { name := "nodeEdits", fn := fun _ => fun
  | [d1, d2, d3] => { results := [.lit (.bool false)], args := [d1, d2, d3] }
  | _ => none }
def NodeEditsWrongFalsely : Prop := nodeEditsRow.holds Try.pinned (OpenSpec.ofChange nodeEditsWrong)

/-- 'cisternlaw11.NodeMap': WHATEVER THE INPUT: true; the input reads as it did. -/
def nodeMapSpec : ChangeSpec := { name := "nodeMap", fn := fun _ => fun
  | [d1, d2, d3] => { results := [.lit (.bool true)], args := [d1, d2, d3] }
  | _ => none }
def nodeMapRow : OpenClaim := { program := "ytjjfeoigjhbbpaa", sum := "b5f2c3a7eda8f8ed4b524daef14c34e064e8ff3cff88296967ed8650624aaa3a", func := "cistern/cisternlaw11.NodeMap", spec := "nodeMap", inPlace := ["internal/abi.NoEscape", "slices.overlaps[cistern/api.Pair]"], unfollowed := true, recurses := true, apart := false }
def NodeMapSaid : Prop := nodeMapRow.holds Try.pinned (OpenSpec.ofChange nodeMapSpec)

/-- ITS FALSE NEIGHBOUR: 'it returns false'. Refute it at one input. -/
def nodeMapWrong : ChangeSpec := { name := "nodeMap", fn := fun _ => fun
  | [d1, d2, d3] => { results := [.lit (.bool false)], args := [d1, d2, d3] }
  | _ => none }
def NodeMapWrongFalsely : Prop := nodeMapRow.holds Try.pinned (OpenSpec.ofChange nodeMapWrong)

/-- 'cisternlaw11.NodeApart': WHATEVER THE INPUT: true; the input reads as it did. -/
def nodeApartSpec : ChangeSpec := { name := "nodeApart", fn := fun _ => fun
  | [d1, d2, d3] => { results := [.lit (.bool true)], args := [d1, d2, d3] }
  | _ => none }
def nodeApartRow : OpenClaim := { program := "ytjjfeoigjhbbpaa", sum := "b5f2c3a7eda8f8ed4b524daef14c34e064e8ff3cff88296967ed8650624aaa3a", func := "cistern/cisternlaw11.NodeApart", spec := "nodeApart", inPlace := ["internal/abi.NoEscape", "slices.overlaps[cistern/api.Pair]"], unfollowed := true, recurses := true, apart := false }
def NodeApartSaid : Prop := nodeApartRow.holds Try.pinned (OpenSpec.ofChange nodeApartSpec)

/-- ITS FALSE NEIGHBOUR: 'it returns false'. Refute it at one input. -/
def nodeApartWrong : ChangeSpec := { name := "nodeApart", fn := fun _ => fun
  | [d1, d2, d3] => { results := [.lit (.bool false)], args := [d1, d2, d3] }
  | _ => none }
def NodeApartWrongFalsely : Prop := nodeApartRow.holds Try.pinned (OpenSpec.ofChange nodeApartWrong)

/- THE SECOND FORM. 'bulk': how many values and letters a reading holds, each counted each time it is reached (what is shared counts as often as it is met; a slice's spare places count too). A statement '..UptoSaid' is the law's where the arguments, and the package variables that the reading takes, are together of bulk at most 1048576: NARROWER than '..Said'. Prove '..Said' where nothing that the law and all that it calls make is longer than what came in: it says more and counts as full. Else prove '..UptoSaid'. A law counts once. -/
mutual
def uptoBulk {H : Type} : DataW H → Nat
  | .lit (.string bytes) => bytes.length + 1
  | .lit _ => 1
  | .nil => 1
  | .ptr d => uptoBulk d + 1
  | .slice elems spare => uptoBulkAll elems + uptoBulkAll spare + 1
  | .agg parts => uptoBulkAll parts + 1
  | .iface _ d => uptoBulk d + 1
  | .map entries => uptoBulkEntries entries + 1
  | .held _ => 1
def uptoBulkAll {H : Type} : List (DataW H) → Nat
  | [] => 0
  | d :: r => uptoBulk d + uptoBulkAll r
def uptoBulkEntries {H : Type} : List (Lit × DataW H) → Nat
  | [] => 0
  | x :: r => uptoBulkEntry x + uptoBulkEntries r
def uptoBulkEntry {H : Type} : Lit × DataW H → Nat
  | (.string bytes, d) => bytes.length + uptoBulk d + 1
  | (_, d) => uptoBulk d + 1
 end
def uptoSmall : (H : Type) → List (DataW H) → Bool := fun _ ds => decide (uptoBulkAll ds ≤ 1048576)
def OpenSpec.upto (s : _root_.Go.ChangeSpec) : _root_.Go.OpenSpec := { _root_.Go.OpenSpec.ofChange s with cond := some uptoSmall }

/-- 'cisternlaw11.NodeFits', WHERE WHAT IT READS IS OF BULK AT MOST 1048576: true; the input reads as it did. -/
def nodeFitsUptoRow : OpenClaim := { program := "ytjjfeoigjhbbpaa", sum := "b5f2c3a7eda8f8ed4b524daef14c34e064e8ff3cff88296967ed8650624aaa3a", func := "cistern/cisternlaw11.NodeFits", spec := "nodeFits", inPlace := ["internal/abi.NoEscape"], unfollowed := true, recurses := true, apart := false, narrowed := true }
def NodeFitsUptoSaid : Prop := nodeFitsUptoRow.holds Try.pinned (OpenSpec.upto nodeFitsSpec)

/-- 'cisternlaw11.NodeHalves', WHERE WHAT IT READS IS OF BULK AT MOST 1048576: true; the input reads as it did. -/
def nodeHalvesUptoRow : OpenClaim := { program := "ytjjfeoigjhbbpaa", sum := "b5f2c3a7eda8f8ed4b524daef14c34e064e8ff3cff88296967ed8650624aaa3a", func := "cistern/cisternlaw11.NodeHalves", spec := "nodeHalves", inPlace := ["internal/abi.NoEscape"], unfollowed := true, recurses := true, apart := false, narrowed := true }
def NodeHalvesUptoSaid : Prop := nodeHalvesUptoRow.holds Try.pinned (OpenSpec.upto nodeHalvesSpec)

/-- 'cisternlaw11.NodeWhole', WHERE WHAT IT READS IS OF BULK AT MOST 1048576: true; the input reads as it did. -/
def nodeWholeUptoRow : OpenClaim := { program := "ytjjfeoigjhbbpaa", sum := "b5f2c3a7eda8f8ed4b524daef14c34e064e8ff3cff88296967ed8650624aaa3a", func := "cistern/cisternlaw11.NodeWhole", spec := "nodeWhole", inPlace := ["internal/abi.NoEscape"], unfollowed := true, recurses := true, apart := false, narrowed := true }
def NodeWholeUptoSaid : Prop := nodeWholeUptoRow.holds Try.pinned (OpenSpec.upto nodeWholeSpec)

/-- 'cisternlaw11.NodePages', WHERE WHAT IT READS IS OF BULK AT MOST 1048576: true; the input reads as it did. -/
def nodePagesUptoRow : OpenClaim := { program := "ytjjfeoigjhbbpaa", sum := "b5f2c3a7eda8f8ed4b524daef14c34e064e8ff3cff88296967ed8650624aaa3a", func := "cistern/cisternlaw11.NodePages", spec := "nodePages", inPlace := ["internal/abi.NoEscape", "internal/bytealg.MakeNoZero"], unfollowed := true, recurses := true, apart := false, narrowed := true }
def NodePagesUptoSaid : Prop := nodePagesUptoRow.holds Try.pinned (OpenSpec.upto nodePagesSpec)

/-- 'cisternlaw11.NodeInverse', WHERE WHAT IT READS IS OF BULK AT MOST 1048576: true; the input reads as it did. -/
def nodeInverseUptoRow : OpenClaim := { program := "ytjjfeoigjhbbpaa", sum := "b5f2c3a7eda8f8ed4b524daef14c34e064e8ff3cff88296967ed8650624aaa3a", func := "cistern/cisternlaw11.NodeInverse", spec := "nodeInverse", inPlace := ["internal/abi.NoEscape", "internal/bytealg.MakeNoZero"], unfollowed := true, recurses := true, apart := false, narrowed := true }
def NodeInverseUptoSaid : Prop := nodeInverseUptoRow.holds Try.pinned (OpenSpec.upto nodeInverseSpec)

/-- 'cisternlaw11.NodeGrows', WHERE WHAT IT READS IS OF BULK AT MOST 1048576: true; the input reads as it did. -/
def nodeGrowsUptoRow : OpenClaim := { program := "ytjjfeoigjhbbpaa", sum := "b5f2c3a7eda8f8ed4b524daef14c34e064e8ff3cff88296967ed8650624aaa3a", func := "cistern/cisternlaw11.NodeGrows", spec := "nodeGrows", inPlace := ["internal/abi.NoEscape", "slices.overlaps[cistern/api.Pair]"], unfollowed := true, recurses := true, apart := false, narrowed := true }
def NodeGrowsUptoSaid : Prop := nodeGrowsUptoRow.holds Try.pinned (OpenSpec.upto nodeGrowsSpec)

/-- 'cisternlaw11.NodeEdits', WHERE WHAT IT READS IS OF BULK AT MOST 1048576: true; the input reads as it did. -/
def nodeEditsUptoRow : OpenClaim := { program := "ytjjfeoigjhbbpaa", sum := "b5f2c3a7eda8f8ed4b524daef14c34e064e8ff3cff88296967ed8650624aaa3a", func := "cistern/cisternlaw11.NodeEdits", spec := "nodeEdits", inPlace := ["internal/abi.NoEscape", "slices.overlaps[cistern/api.Pair]"], unfollowed := true, recurses := true, apart := false, narrowed := true }
def NodeEditsUptoSaid : Prop := nodeEditsUptoRow.holds Try.pinned (OpenSpec.upto nodeEditsSpec)

/-- 'cisternlaw11.NodeMap', WHERE WHAT IT READS IS OF BULK AT MOST 1048576: true; the input reads as it did. -/
def nodeMapUptoRow : OpenClaim := { program := "ytjjfeoigjhbbpaa", sum := "b5f2c3a7eda8f8ed4b524daef14c34e064e8ff3cff88296967ed8650624aaa3a", func := "cistern/cisternlaw11.NodeMap", spec := "nodeMap", inPlace := ["internal/abi.NoEscape", "slices.overlaps[cistern/api.Pair]"], unfollowed := true, recurses := true, apart := false, narrowed := true }
def NodeMapUptoSaid : Prop := nodeMapUptoRow.holds Try.pinned (OpenSpec.upto nodeMapSpec)

/-- 'cisternlaw11.NodeApart', WHERE WHAT IT READS IS OF BULK AT MOST 1048576: true; the input reads as it did. -/
def nodeApartUptoRow : OpenClaim := { program := "ytjjfeoigjhbbpaa", sum := "b5f2c3a7eda8f8ed4b524daef14c34e064e8ff3cff88296967ed8650624aaa3a", func := "cistern/cisternlaw11.NodeApart", spec := "nodeApart", inPlace := ["internal/abi.NoEscape", "slices.overlaps[cistern/api.Pair]"], unfollowed := true, recurses := true, apart := false, narrowed := true }
def NodeApartUptoSaid : Prop := nodeApartUptoRow.holds Try.pinned (OpenSpec.upto nodeApartSpec)

end Rows
end Go.Proofs.Ytjjfeoigjhbbpaa
