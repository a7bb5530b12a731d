/-
  NARROWER THAN 'FOR EVERY INPUT', by the rows' own cells (each row's printed sentence says how): BlobWhole: laid · BlobNames: laid · BlobRoots: laid · BlobOthers: laid · BlobOutcomes: laid · BlobPlays: laid.
  DERIVED. THE GIVEN ROWS OF THIS SEAT. 6 by the template 'for every input the law returns true; each argument reads behind the call as it read before'; 0 by the template 'total and deterministic' (their statements: YtcallfgihohldaaDoorTotals.lean).
  GIVEN WITH THE SEED: the statements are not yours to turn. If you find one false, say at which input.
  Laid BY PROGRAM, IN A SANDBOX (cutbox-rows.mjs): the forced cells as the released guide's own fill.sh prints them over the translation 269d1bdd822de23c… (all of the seat's roots in one cut). By AI agents, Wed Nov 11 2026. No macro, syntax, notation, axiom, sorry.
-/
import Derived.Test.YtcallfgihohldaaDoorChecked
import GoSem.PinnedTables
import GoSem.Claim
import GoSem.ClaimJoined
import GoSem.ClaimMapViews
import Derived.JoinedTies
import Derived.KernelRfl
namespace Go.Proofs.YtcallfgihohldaaDoor
/- THE CELL 'sum', in the pinned program and in every row, IS THE sha256 OF THE DUMP (.gsa) THAT YtcallfgihohldaaDoorProg.lean LOADS. Nothing in Lean hashes anything: it is a label: what it is worth is what the hold of that sum in a sandbox is worth. -/
noncomputable def Tryd.pinned : Pinned := { name := "ytcallfgihohldaadoor", sum := "269d1bdd822de23c33aef85a6c453dfadb20777ef802f226d59489cc4cca410d", checked := Tryd.checked }
namespace Rows
def none {H : Type} : Left H := { results := [], args := [] }

/- WHAT THE LISTED PACKAGE-LEVEL VARIABLES READ AS WHEN THE CALL BEGINS. Each datum BY PROGRAM (the guide's laid-datum.mjs) off the statement by which the dump's own 'gosem.cut.vars' lays the variable. In a bare row this is a premise. The card (YtcallfgihohldaaDoorCards.lean) ties it to the program's text. -/
def laid_unicode_utf8_acceptRanges {H : Type} : DataW H := .agg [.agg [.lit (.int .u8 128), .lit (.int .u8 191)], .agg [.lit (.int .u8 160), .lit (.int .u8 191)], .agg [.lit (.int .u8 128), .lit (.int .u8 159)], .agg [.lit (.int .u8 144), .lit (.int .u8 191)], .agg [.lit (.int .u8 128), .lit (.int .u8 143)], .agg [.lit (.int .u8 0), .lit (.int .u8 0)], .agg [.lit (.int .u8 0), .lit (.int .u8 0)], .agg [.lit (.int .u8 0), .lit (.int .u8 0)], .agg [.lit (.int .u8 0), .lit (.int .u8 0)], .agg [.lit (.int .u8 0), .lit (.int .u8 0)], .agg [.lit (.int .u8 0), .lit (.int .u8 0)], .agg [.lit (.int .u8 0), .lit (.int .u8 0)], .agg [.lit (.int .u8 0), .lit (.int .u8 0)], .agg [.lit (.int .u8 0), .lit (.int .u8 0)], .agg [.lit (.int .u8 0), .lit (.int .u8 0)], .agg [.lit (.int .u8 0), .lit (.int .u8 0)]]
/-- One of Go's own tables, pinned by name: the form's constant. -/
def laid_unicode_utf8_first : DataW Unit := Go.Pinned.utf8First

/-- 'cisternlaw02.BlobWhole': WHATEVER THE INPUT: true; the input reads as it did. -/
def blobWholeSpec : ChangeSpec := { name := "blobWhole", fn := fun _ => fun
  | [d1, d2] => { results := [.lit (.bool true)], args := [d1, d2] }
  | _ => none }
def blobWholeRow : OpenClaim := { program := "ytcallfgihohldaadoor", sum := "269d1bdd822de23c33aef85a6c453dfadb20777ef802f226d59489cc4cca410d", func := "cistern/cisternlaw02.BlobWhole", spec := "blobWhole", inPlace := ["internal/bytealg.IndexByteString", "internal/bytealg.IndexString"], named := ["unicode/utf8.first", "unicode/utf8.acceptRanges", "internal/bytealg.MaxLen"], apart := false, laid := [("unicode/utf8.acceptRanges", laid_unicode_utf8_acceptRanges), ("unicode/utf8.first", laid_unicode_utf8_first)] }
def BlobWholeSaid : Prop := blobWholeRow.holds Tryd.pinned (OpenSpec.ofChange blobWholeSpec)

/-- ITS FALSE NEIGHBOUR: 'it returns false'. Refute it at one input. -/
def blobWholeWrong : ChangeSpec := { name := "blobWhole", fn := fun _ => fun
  | [d1, d2] => { results := [.lit (.bool false)], args := [d1, d2] }
  | _ => none }
def BlobWholeWrongFalsely : Prop := blobWholeRow.holds Tryd.pinned (OpenSpec.ofChange blobWholeWrong)

/-- 'cisternlaw02.BlobNames': WHATEVER THE INPUT: true; the input reads as it did. -/
def blobNamesSpec : ChangeSpec := { name := "blobNames", fn := fun _ => fun
  | [d] => { results := [.lit (.bool true)], args := [d] }
  | _ => none }
def blobNamesRow : OpenClaim := { program := "ytcallfgihohldaadoor", sum := "269d1bdd822de23c33aef85a6c453dfadb20777ef802f226d59489cc4cca410d", func := "cistern/cisternlaw02.BlobNames", spec := "blobNames", inPlace := ["internal/bytealg.IndexByteString", "internal/bytealg.IndexString"], named := ["unicode/utf8.first", "unicode/utf8.acceptRanges", "internal/bytealg.MaxLen"], apart := false, laid := [("unicode/utf8.acceptRanges", laid_unicode_utf8_acceptRanges), ("unicode/utf8.first", laid_unicode_utf8_first)] }
def BlobNamesSaid : Prop := blobNamesRow.holds Tryd.pinned (OpenSpec.ofChange blobNamesSpec)

/-- ITS FALSE NEIGHBOUR: 'it returns false'. Refute it at one input. -/
def blobNamesWrong : ChangeSpec := { name := "blobNames", fn := fun _ => fun
  | [d] => { results := [.lit (.bool false)], args := [d] }
  | _ => none }
def BlobNamesWrongFalsely : Prop := blobNamesRow.holds Tryd.pinned (OpenSpec.ofChange blobNamesWrong)

/-- 'cisternlaw02.BlobRoots': WHATEVER THE INPUT: true; the input reads as it did. -/
def blobRootsSpec : ChangeSpec := { name := "blobRoots", fn := fun _ => fun
  | [d] => { results := [.lit (.bool true)], args := [d] }
  | _ => none }
def blobRootsRow : OpenClaim := { program := "ytcallfgihohldaadoor", sum := "269d1bdd822de23c33aef85a6c453dfadb20777ef802f226d59489cc4cca410d", func := "cistern/cisternlaw02.BlobRoots", spec := "blobRoots", inPlace := ["internal/bytealg.IndexByteString", "internal/bytealg.IndexString"], named := ["unicode/utf8.first", "unicode/utf8.acceptRanges", "internal/bytealg.MaxLen"], apart := false, laid := [("unicode/utf8.acceptRanges", laid_unicode_utf8_acceptRanges), ("unicode/utf8.first", laid_unicode_utf8_first)] }
def BlobRootsSaid : Prop := blobRootsRow.holds Tryd.pinned (OpenSpec.ofChange blobRootsSpec)

/-- ITS FALSE NEIGHBOUR: 'it returns false'. Refute it at one input. -/
def blobRootsWrong : ChangeSpec := { name := "blobRoots", fn := fun _ => fun
  | [d] => { results := [.lit (.bool false)], args := [d] }
  | _ => none }
def BlobRootsWrongFalsely : Prop := blobRootsRow.holds Tryd.pinned (OpenSpec.ofChange blobRootsWrong)

/-- 'cisternlaw02.BlobOthers': WHATEVER THE INPUT: true; the input reads as it did. -/
def blobOthersSpec : ChangeSpec := { name := "blobOthers", fn := fun _ => fun
  | [d1, d2] => { results := [.lit (.bool true)], args := [d1, d2] }
  | _ => none }
def blobOthersRow : OpenClaim := { program := "ytcallfgihohldaadoor", sum := "269d1bdd822de23c33aef85a6c453dfadb20777ef802f226d59489cc4cca410d", func := "cistern/cisternlaw02.BlobOthers", spec := "blobOthers", inPlace := ["internal/bytealg.IndexByteString", "internal/bytealg.IndexString"], unfollowed := true, recurses := true, named := ["unicode/utf8.first", "unicode/utf8.acceptRanges", "internal/bytealg.MaxLen"], apart := false, laid := [("unicode/utf8.acceptRanges", laid_unicode_utf8_acceptRanges), ("unicode/utf8.first", laid_unicode_utf8_first)] }
def BlobOthersSaid : Prop := blobOthersRow.holds Tryd.pinned (OpenSpec.ofChange blobOthersSpec)

/-- ITS FALSE NEIGHBOUR: 'it returns false'. Refute it at one input. -/
def blobOthersWrong : ChangeSpec := { name := "blobOthers", fn := fun _ => fun
  | [d1, d2] => { results := [.lit (.bool false)], args := [d1, d2] }
  | _ => none }
def BlobOthersWrongFalsely : Prop := blobOthersRow.holds Tryd.pinned (OpenSpec.ofChange blobOthersWrong)

/-- 'cisternlaw02.BlobOutcomes': WHATEVER THE INPUT: true; the input reads as it did. -/
def blobOutcomesSpec : ChangeSpec := { name := "blobOutcomes", fn := fun _ => fun
  | [d] => { results := [.lit (.bool true)], args := [d] }
  | _ => none }
def blobOutcomesRow : OpenClaim := { program := "ytcallfgihohldaadoor", sum := "269d1bdd822de23c33aef85a6c453dfadb20777ef802f226d59489cc4cca410d", func := "cistern/cisternlaw02.BlobOutcomes", spec := "blobOutcomes", inPlace := ["internal/bytealg.IndexByteString", "internal/bytealg.IndexString"], unfollowed := true, recurses := true, named := ["unicode/utf8.first", "unicode/utf8.acceptRanges", "internal/bytealg.MaxLen"], apart := false, laid := [("unicode/utf8.acceptRanges", laid_unicode_utf8_acceptRanges), ("unicode/utf8.first", laid_unicode_utf8_first)] }
def BlobOutcomesSaid : Prop := blobOutcomesRow.holds Tryd.pinned (OpenSpec.ofChange blobOutcomesSpec)

/-- ITS FALSE NEIGHBOUR: 'it returns false'. Refute it at one input. -/
def blobOutcomesWrong : ChangeSpec := { name := "blobOutcomes", fn := fun _ => fun
  | [d] => { results := [.lit (.bool false)], args := [d] }
  | _ => none }
def BlobOutcomesWrongFalsely : Prop := blobOutcomesRow.holds Tryd.pinned (OpenSpec.ofChange blobOutcomesWrong)

/-- 'cisternlaw02.BlobPlays': WHATEVER THE INPUT: true; the input reads as it did. -/
def blobPlaysSpec : ChangeSpec := { name := "blobPlays", fn := fun _ => fun
  | [d] => { results := [.lit (.bool true)], args := [d] }
  | _ => none }
def blobPlaysRow : OpenClaim := { program := "ytcallfgihohldaadoor", sum := "269d1bdd822de23c33aef85a6c453dfadb20777ef802f226d59489cc4cca410d", func := "cistern/cisternlaw02.BlobPlays", spec := "blobPlays", inPlace := ["internal/bytealg.IndexByteString", "internal/bytealg.IndexString"], unfollowed := true, recurses := true, named := ["unicode/utf8.first", "unicode/utf8.acceptRanges", "internal/bytealg.MaxLen"], apart := false, laid := [("unicode/utf8.acceptRanges", laid_unicode_utf8_acceptRanges), ("unicode/utf8.first", laid_unicode_utf8_first)] }
def BlobPlaysSaid : Prop := blobPlaysRow.holds Tryd.pinned (OpenSpec.ofChange blobPlaysSpec)

/-- ITS FALSE NEIGHBOUR: 'it returns false'. Refute it at one input. -/
def blobPlaysWrong : ChangeSpec := { name := "blobPlays", fn := fun _ => fun
  | [d] => { results := [.lit (.bool false)], args := [d] }
  | _ => none }
def BlobPlaysWrongFalsely : Prop := blobPlaysRow.holds Tryd.pinned (OpenSpec.ofChange blobPlaysWrong)

/- THE SECOND FORM. 'bulk': how many values and letters a reading holds, each counted each time it is reached (what is shared counts as often as it is met; a slice's spare places count too). A statement '..UptoSaid' is the law's where the arguments, and the package variables that the reading takes, are together of bulk at most 1048576: NARROWER than '..Said'. Prove '..Said' where nothing that the law and all that it calls make is longer than what came in: it says more and counts as full. Else prove '..UptoSaid'. A law counts once. -/
mutual
def uptoBulk {H : Type} : DataW H → Nat
  | .lit (.string bytes) => bytes.length + 1
  | .lit _ => 1
  | .nil => 1
  | .ptr d => uptoBulk d + 1
  | .slice elems spare => uptoBulkAll elems + uptoBulkAll spare + 1
  | .agg parts => uptoBulkAll parts + 1
  | .iface _ d => uptoBulk d + 1
  | .map entries => uptoBulkEntries entries + 1
  | .held _ => 1
def uptoBulkAll {H : Type} : List (DataW H) → Nat
  | [] => 0
  | d :: r => uptoBulk d + uptoBulkAll r
def uptoBulkEntries {H : Type} : List (Lit × DataW H) → Nat
  | [] => 0
  | x :: r => uptoBulkEntry x + uptoBulkEntries r
def uptoBulkEntry {H : Type} : Lit × DataW H → Nat
  | (.string bytes, d) => bytes.length + uptoBulk d + 1
  | (_, d) => uptoBulk d + 1
 end
def uptoSmall : (H : Type) → List (DataW H) → Bool := fun _ ds => decide (uptoBulkAll ds ≤ 1048576)
def OpenSpec.upto (s : _root_.Go.ChangeSpec) : _root_.Go.OpenSpec := { _root_.Go.OpenSpec.ofChange s with cond := some uptoSmall }

/-- 'cisternlaw02.BlobWhole', WHERE WHAT IT READS IS OF BULK AT MOST 1048576: true; the input reads as it did. -/
def blobWholeUptoRow : OpenClaim := { program := "ytcallfgihohldaadoor", sum := "269d1bdd822de23c33aef85a6c453dfadb20777ef802f226d59489cc4cca410d", func := "cistern/cisternlaw02.BlobWhole", spec := "blobWhole", inPlace := ["internal/bytealg.IndexByteString", "internal/bytealg.IndexString"], named := ["unicode/utf8.first", "unicode/utf8.acceptRanges", "internal/bytealg.MaxLen"], apart := false, laid := [("unicode/utf8.acceptRanges", laid_unicode_utf8_acceptRanges), ("unicode/utf8.first", laid_unicode_utf8_first)], narrowed := true }
def BlobWholeUptoSaid : Prop := blobWholeUptoRow.holds Tryd.pinned (OpenSpec.upto blobWholeSpec)

/-- 'cisternlaw02.BlobNames', WHERE WHAT IT READS IS OF BULK AT MOST 1048576: true; the input reads as it did. -/
def blobNamesUptoRow : OpenClaim := { program := "ytcallfgihohldaadoor", sum := "269d1bdd822de23c33aef85a6c453dfadb20777ef802f226d59489cc4cca410d", func := "cistern/cisternlaw02.BlobNames", spec := "blobNames", inPlace := ["internal/bytealg.IndexByteString", "internal/bytealg.IndexString"], named := ["unicode/utf8.first", "unicode/utf8.acceptRanges", "internal/bytealg.MaxLen"], apart := false, laid := [("unicode/utf8.acceptRanges", laid_unicode_utf8_acceptRanges), ("unicode/utf8.first", laid_unicode_utf8_first)], narrowed := true }
def BlobNamesUptoSaid : Prop := blobNamesUptoRow.holds Tryd.pinned (OpenSpec.upto blobNamesSpec)

/-- 'cisternlaw02.BlobRoots', WHERE WHAT IT READS IS OF BULK AT MOST 1048576: true; the input reads as it did. -/
def blobRootsUptoRow : OpenClaim := { program := "ytcallfgihohldaadoor", sum := "269d1bdd822de23c33aef85a6c453dfadb20777ef802f226d59489cc4cca410d", func := "cistern/cisternlaw02.BlobRoots", spec := "blobRoots", inPlace := ["internal/bytealg.IndexByteString", "internal/bytealg.IndexString"], named := ["unicode/utf8.first", "unicode/utf8.acceptRanges", "internal/bytealg.MaxLen"], apart := false, laid := [("unicode/utf8.acceptRanges", laid_unicode_utf8_acceptRanges), ("unicode/utf8.first", laid_unicode_utf8_first)], narrowed := true }
def BlobRootsUptoSaid : Prop := blobRootsUptoRow.holds Tryd.pinned (OpenSpec.upto blobRootsSpec)

/-- 'cisternlaw02.BlobOthers', WHERE WHAT IT READS IS OF BULK AT MOST 1048576: true; the input reads as it did. -/
def blobOthersUptoRow : OpenClaim := { program := "ytcallfgihohldaadoor", sum := "269d1bdd822de23c33aef85a6c453dfadb20777ef802f226d59489cc4cca410d", func := "cistern/cisternlaw02.BlobOthers", spec := "blobOthers", inPlace := ["internal/bytealg.IndexByteString", "internal/bytealg.IndexString"], unfollowed := true, recurses := true, named := ["unicode/utf8.first", "unicode/utf8.acceptRanges", "internal/bytealg.MaxLen"], apart := false, laid := [("unicode/utf8.acceptRanges", laid_unicode_utf8_acceptRanges), ("unicode/utf8.first", laid_unicode_utf8_first)], narrowed := true }
def BlobOthersUptoSaid : Prop := blobOthersUptoRow.holds Tryd.pinned (OpenSpec.upto blobOthersSpec)

/-- 'cisternlaw02.BlobOutcomes', WHERE WHAT IT READS IS OF BULK AT MOST 1048576: true; the input reads as it did. -/
def blobOutcomesUptoRow : OpenClaim := { program := "ytcallfgihohldaadoor", sum := "269d1bdd822de23c33aef85a6c453dfadb20777ef802f226d59489cc4cca410d", func := "cistern/cisternlaw02.BlobOutcomes", spec := "blobOutcomes", inPlace := ["internal/bytealg.IndexByteString", "internal/bytealg.IndexString"], unfollowed := true, recurses := true, named := ["unicode/utf8.first", "unicode/utf8.acceptRanges", "internal/bytealg.MaxLen"], apart := false, laid := [("unicode/utf8.acceptRanges", laid_unicode_utf8_acceptRanges), ("unicode/utf8.first", laid_unicode_utf8_first)], narrowed := true }
def BlobOutcomesUptoSaid : Prop := blobOutcomesUptoRow.holds Tryd.pinned (OpenSpec.upto blobOutcomesSpec)

/-- 'cisternlaw02.BlobPlays', WHERE WHAT IT READS IS OF BULK AT MOST 1048576: true; the input reads as it did. -/
def blobPlaysUptoRow : OpenClaim := { program := "ytcallfgihohldaadoor", sum := "269d1bdd822de23c33aef85a6c453dfadb20777ef802f226d59489cc4cca410d", func := "cistern/cisternlaw02.BlobPlays", spec := "blobPlays", inPlace := ["internal/bytealg.IndexByteString", "internal/bytealg.IndexString"], unfollowed := true, recurses := true, named := ["unicode/utf8.first", "unicode/utf8.acceptRanges", "internal/bytealg.MaxLen"], apart := false, laid := [("unicode/utf8.acceptRanges", laid_unicode_utf8_acceptRanges), ("unicode/utf8.first", laid_unicode_utf8_first)], narrowed := true }
def BlobPlaysUptoSaid : Prop := blobPlaysUptoRow.holds Tryd.pinned (OpenSpec.upto blobPlaysSpec)

end Rows
end Go.Proofs.YtcallfgihohldaaDoor
