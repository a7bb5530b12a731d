/-
  No cell of these rows narrows 'for every input' (looked for: loops, veiled, ifaces, maps, wideKeys, modest, calm, conditions, laid).
  DERIVED. THE GIVEN ROWS OF THIS SEAT. 7 by the template 'for every input the law returns true; each argument reads behind the call as it read before'; 0 by the template 'total and deterministic' (their statements: YtgakjpnfbgmjjaaTotals.lean).
  GIVEN WITH THE SEED: the statements are not yours to turn. If you find one false, say at which input.
  Laid BY PROGRAM, IN A SANDBOX (cutbox-rows.mjs): the forced cells as the released guide's own fill.sh prints them over the translation da1e700f8bcc0d46… (all of the seat's roots in one cut). By AI agents, Wed Nov 11 2026. No macro, syntax, notation, axiom, sorry.
-/
import Derived.Test.YtgakjpnfbgmjjaaChecked
import GoSem.Claim
import GoSem.ClaimJoined
import GoSem.ClaimMapViews
import Derived.JoinedTies
import Derived.KernelRfl
namespace Go.Proofs.Ytgakjpnfbgmjjaa
/- THE CELL 'sum', in the pinned program and in every row, IS THE sha256 OF THE DUMP (.gsa) THAT YtgakjpnfbgmjjaaProg.lean LOADS. Nothing in Lean hashes anything: it is a label: what it is worth is what the hold of that sum in a sandbox is worth. -/
noncomputable def Try.pinned : Pinned := { name := "ytgakjpnfbgmjjaa", sum := "da1e700f8bcc0d467e4ac44a5bbcc7f5a67d972a337b2350a80a9c558da469bb", checked := Try.checked }
namespace Rows
def none {H : Type} : Left H := { results := [], args := [] }

/-- 'cisternlaw01.FlashNewest': WHATEVER THE INPUT: true; the input reads as it did. -/
def flashNewestSpec : ChangeSpec := { name := "flashNewest", fn := fun _ => fun
  | [d1, d2] => { results := [.lit (.bool true)], args := [d1, d2] }
  | _ => none }
def flashNewestRow : OpenClaim := { program := "ytgakjpnfbgmjjaa", sum := "da1e700f8bcc0d467e4ac44a5bbcc7f5a67d972a337b2350a80a9c558da469bb", func := "cistern/cisternlaw01.FlashNewest", spec := "flashNewest", unfollowed := true, recurses := true, apart := false }
def FlashNewestSaid : Prop := flashNewestRow.holds Try.pinned (OpenSpec.ofChange flashNewestSpec)

/-- ITS FALSE NEIGHBOUR: 'it returns false'. Refute it at one input. -/
def flashNewestWrong : ChangeSpec := { name := "flashNewest", fn := fun _ => fun
  | [d1, d2] => { results := [.lit (.bool false)], args := [d1, d2] }
  | _ => none }
def FlashNewestWrongFalsely : Prop := flashNewestRow.holds Try.pinned (OpenSpec.ofChange flashNewestWrong)

/-- 'cisternlaw01.FlashSizes': WHATEVER THE INPUT: true; the input reads as it did. -/
def flashSizesSpec : ChangeSpec := { name := "flashSizes", fn := fun _ => fun
  | [d1, d2] => { results := [.lit (.bool true)], args := [d1, d2] }
  | _ => none }
def flashSizesRow : OpenClaim := { program := "ytgakjpnfbgmjjaa", sum := "da1e700f8bcc0d467e4ac44a5bbcc7f5a67d972a337b2350a80a9c558da469bb", func := "cistern/cisternlaw01.FlashSizes", spec := "flashSizes", unfollowed := true, recurses := true, apart := false }
def FlashSizesSaid : Prop := flashSizesRow.holds Try.pinned (OpenSpec.ofChange flashSizesSpec)

/-- ITS FALSE NEIGHBOUR: 'it returns false'. Refute it at one input. -/
def flashSizesWrong : ChangeSpec := { name := "flashSizes", fn := fun _ => fun
  | [d1, d2] => { results := [.lit (.bool false)], args := [d1, d2] }
  | _ => none }
def FlashSizesWrongFalsely : Prop := flashSizesRow.holds Try.pinned (OpenSpec.ofChange flashSizesWrong)

/-- 'cisternlaw01.FlashArms': WHATEVER THE INPUT: true; the input reads as it did. -/
def flashArmsSpec : ChangeSpec := { name := "flashArms", fn := fun _ => fun
  | [d1, d2] => { results := [.lit (.bool true)], args := [d1, d2] }
  | _ => none }
def flashArmsRow : OpenClaim := { program := "ytgakjpnfbgmjjaa", sum := "da1e700f8bcc0d467e4ac44a5bbcc7f5a67d972a337b2350a80a9c558da469bb", func := "cistern/cisternlaw01.FlashArms", spec := "flashArms", unfollowed := true, recurses := true, apart := false }
def FlashArmsSaid : Prop := flashArmsRow.holds Try.pinned (OpenSpec.ofChange flashArmsSpec)

/-- ITS FALSE NEIGHBOUR: 'it returns false'. Refute it at one input. -/
def flashArmsWrong : ChangeSpec := { name := "flashArms", fn := fun _ => fun
  | [d1, d2] => { results := [.lit (.bool false)], args := [d1, d2] }
  | _ => none }
def FlashArmsWrongFalsely : Prop := flashArmsRow.holds Try.pinned (OpenSpec.ofChange flashArmsWrong)

/-- 'cisternlaw01.FlashLasts': WHATEVER THE INPUT: true; the input reads as it did. -/
def flashLastsSpec : ChangeSpec := { name := "flashLasts", fn := fun _ => fun
  | [d1, d2] => { results := [.lit (.bool true)], args := [d1, d2] }
  | _ => none }
def flashLastsRow : OpenClaim := { program := "ytgakjpnfbgmjjaa", sum := "da1e700f8bcc0d467e4ac44a5bbcc7f5a67d972a337b2350a80a9c558da469bb", func := "cistern/cisternlaw01.FlashLasts", spec := "flashLasts", unfollowed := true, recurses := true, apart := false }
def FlashLastsSaid : Prop := flashLastsRow.holds Try.pinned (OpenSpec.ofChange flashLastsSpec)

/-- ITS FALSE NEIGHBOUR: 'it returns false'. Refute it at one input. -/
def flashLastsWrong : ChangeSpec := { name := "flashLasts", fn := fun _ => fun
  | [d1, d2] => { results := [.lit (.bool false)], args := [d1, d2] }
  | _ => none }
def FlashLastsWrongFalsely : Prop := flashLastsRow.holds Try.pinned (OpenSpec.ofChange flashLastsWrong)

/-- 'cisternlaw01.FlashPicks': WHATEVER THE INPUT: true; the input reads as it did. -/
def flashPicksSpec : ChangeSpec := { name := "flashPicks", fn := fun _ => fun
  | [d1, d2] => { results := [.lit (.bool true)], args := [d1, d2] }
  | _ => none }
def flashPicksRow : OpenClaim := { program := "ytgakjpnfbgmjjaa", sum := "da1e700f8bcc0d467e4ac44a5bbcc7f5a67d972a337b2350a80a9c558da469bb", func := "cistern/cisternlaw01.FlashPicks", spec := "flashPicks", unfollowed := true, recurses := true, apart := false }
def FlashPicksSaid : Prop := flashPicksRow.holds Try.pinned (OpenSpec.ofChange flashPicksSpec)

/-- ITS FALSE NEIGHBOUR: 'it returns false'. Refute it at one input. -/
def flashPicksWrong : ChangeSpec := { name := "flashPicks", fn := fun _ => fun
  | [d1, d2] => { results := [.lit (.bool false)], args := [d1, d2] }
  | _ => none }
def FlashPicksWrongFalsely : Prop := flashPicksRow.holds Try.pinned (OpenSpec.ofChange flashPicksWrong)

/-- 'cisternlaw01.FlashPlays': WHATEVER THE INPUT: true; the input reads as it did. -/
def flashPlaysSpec : ChangeSpec := { name := "flashPlays", fn := fun _ => fun
  | [d1, d2] => { results := [.lit (.bool true)], args := [d1, d2] }
  | _ => none }
def flashPlaysRow : OpenClaim := { program := "ytgakjpnfbgmjjaa", sum := "da1e700f8bcc0d467e4ac44a5bbcc7f5a67d972a337b2350a80a9c558da469bb", func := "cistern/cisternlaw01.FlashPlays", spec := "flashPlays", unfollowed := true, recurses := true, apart := false }
def FlashPlaysSaid : Prop := flashPlaysRow.holds Try.pinned (OpenSpec.ofChange flashPlaysSpec)

/-- ITS FALSE NEIGHBOUR: 'it returns false'. Refute it at one input. -/
def flashPlaysWrong : ChangeSpec := { name := "flashPlays", fn := fun _ => fun
  | [d1, d2] => { results := [.lit (.bool false)], args := [d1, d2] }
  | _ => none }
def FlashPlaysWrongFalsely : Prop := flashPlaysRow.holds Try.pinned (OpenSpec.ofChange flashPlaysWrong)

/-- 'cisternlaw01.FlashErases': WHATEVER THE INPUT: true; the input reads as it did. -/
def flashErasesSpec : ChangeSpec := { name := "flashErases", fn := fun _ => fun
  | [d1, d2] => { results := [.lit (.bool true)], args := [d1, d2] }
  | _ => none }
def flashErasesRow : OpenClaim := { program := "ytgakjpnfbgmjjaa", sum := "da1e700f8bcc0d467e4ac44a5bbcc7f5a67d972a337b2350a80a9c558da469bb", func := "cistern/cisternlaw01.FlashErases", spec := "flashErases", unfollowed := true, recurses := true, apart := false }
def FlashErasesSaid : Prop := flashErasesRow.holds Try.pinned (OpenSpec.ofChange flashErasesSpec)

/-- ITS FALSE NEIGHBOUR: 'it returns false'. Refute it at one input. -/
def flashErasesWrong : ChangeSpec := { name := "flashErases", fn := fun _ => fun
  | [d1, d2] => { results := [.lit (.bool false)], args := [d1, d2] }
  | _ => none }
def FlashErasesWrongFalsely : Prop := flashErasesRow.holds Try.pinned (OpenSpec.ofChange flashErasesWrong)

/- THE SECOND FORM. 'bulk': how many values and letters a reading holds, each counted each time it is reached (what is shared counts as often as it is met; a slice's spare places count too). A statement '..UptoSaid' is the law's where the arguments, and the package variables that the reading takes, are together of bulk at most 1048576: NARROWER than '..Said'. Prove '..Said' where nothing that the law and all that it calls make is longer than what came in: it says more and counts as full. Else prove '..UptoSaid'. A law counts once. -/
mutual
def uptoBulk {H : Type} : DataW H → Nat
  | .lit (.string bytes) => bytes.length + 1
  | .lit _ => 1
  | .nil => 1
  | .ptr d => uptoBulk d + 1
  | .slice elems spare => uptoBulkAll elems + uptoBulkAll spare + 1
  | .agg parts => uptoBulkAll parts + 1
  | .iface _ d => uptoBulk d + 1
  | .map entries => uptoBulkEntries entries + 1
  | .held _ => 1
def uptoBulkAll {H : Type} : List (DataW H) → Nat
  | [] => 0
  | d :: r => uptoBulk d + uptoBulkAll r
def uptoBulkEntries {H : Type} : List (Lit × DataW H) → Nat
  | [] => 0
  | x :: r => uptoBulkEntry x + uptoBulkEntries r
def uptoBulkEntry {H : Type} : Lit × DataW H → Nat
  | (.string bytes, d) => bytes.length + uptoBulk d + 1
  | (_, d) => uptoBulk d + 1
 end
def uptoSmall : (H : Type) → List (DataW H) → Bool := fun _ ds => decide (uptoBulkAll ds ≤ 1048576)
def OpenSpec.upto (s : _root_.Go.ChangeSpec) : _root_.Go.OpenSpec := { _root_.Go.OpenSpec.ofChange s with cond := some uptoSmall }

/-- 'cisternlaw01.FlashNewest', WHERE WHAT IT READS IS OF BULK AT MOST 1048576: true; the input reads as it did. -/
def flashNewestUptoRow : OpenClaim := { program := "ytgakjpnfbgmjjaa", sum := "da1e700f8bcc0d467e4ac44a5bbcc7f5a67d972a337b2350a80a9c558da469bb", func := "cistern/cisternlaw01.FlashNewest", spec := "flashNewest", unfollowed := true, recurses := true, apart := false, narrowed := true }
def FlashNewestUptoSaid : Prop := flashNewestUptoRow.holds Try.pinned (OpenSpec.upto flashNewestSpec)

/-- 'cisternlaw01.FlashSizes', WHERE WHAT IT READS IS OF BULK AT MOST 1048576: true; the input reads as it did. -/
def flashSizesUptoRow : OpenClaim := { program := "ytgakjpnfbgmjjaa", sum := "da1e700f8bcc0d467e4ac44a5bbcc7f5a67d972a337b2350a80a9c558da469bb", func := "cistern/cisternlaw01.FlashSizes", spec := "flashSizes", unfollowed := true, recurses := true, apart := false, narrowed := true }
def FlashSizesUptoSaid : Prop := flashSizesUptoRow.holds Try.pinned (OpenSpec.upto flashSizesSpec)

/-- 'cisternlaw01.FlashArms', WHERE WHAT IT READS IS OF BULK AT MOST 1048576: true; the input reads as it did. -/
def flashArmsUptoRow : OpenClaim := { program := "ytgakjpnfbgmjjaa", sum := "da1e700f8bcc0d467e4ac44a5bbcc7f5a67d972a337b2350a80a9c558da469bb", func := "cistern/cisternlaw01.FlashArms", spec := "flashArms", unfollowed := true, recurses := true, apart := false, narrowed := true }
def FlashArmsUptoSaid : Prop := flashArmsUptoRow.holds Try.pinned (OpenSpec.upto flashArmsSpec)

/-- 'cisternlaw01.FlashLasts', WHERE WHAT IT READS IS OF BULK AT MOST 1048576: true; the input reads as it did. -/
def flashLastsUptoRow : OpenClaim := { program := "ytgakjpnfbgmjjaa", sum := "da1e700f8bcc0d467e4ac44a5bbcc7f5a67d972a337b2350a80a9c558da469bb", func := "cistern/cisternlaw01.FlashLasts", spec := "flashLasts", unfollowed := true, recurses := true, apart := false, narrowed := true }
def FlashLastsUptoSaid : Prop := flashLastsUptoRow.holds Try.pinned (OpenSpec.upto flashLastsSpec)

/-- 'cisternlaw01.FlashPicks', WHERE WHAT IT READS IS OF BULK AT MOST 1048576: true; the input reads as it did. -/
def flashPicksUptoRow : OpenClaim := { program := "ytgakjpnfbgmjjaa", sum := "da1e700f8bcc0d467e4ac44a5bbcc7f5a67d972a337b2350a80a9c558da469bb", func := "cistern/cisternlaw01.FlashPicks", spec := "flashPicks", unfollowed := true, recurses := true, apart := false, narrowed := true }
def FlashPicksUptoSaid : Prop := flashPicksUptoRow.holds Try.pinned (OpenSpec.upto flashPicksSpec)

/-- 'cisternlaw01.FlashPlays', WHERE WHAT IT READS IS OF BULK AT MOST 1048576: true; the input reads as it did. -/
def flashPlaysUptoRow : OpenClaim := { program := "ytgakjpnfbgmjjaa", sum := "da1e700f8bcc0d467e4ac44a5bbcc7f5a67d972a337b2350a80a9c558da469bb", func := "cistern/cisternlaw01.FlashPlays", spec := "flashPlays", unfollowed := true, recurses := true, apart := false, narrowed := true }
def FlashPlaysUptoSaid : Prop := flashPlaysUptoRow.holds Try.pinned (OpenSpec.upto flashPlaysSpec)

/-- 'cisternlaw01.FlashErases', WHERE WHAT IT READS IS OF BULK AT MOST 1048576: true; the input reads as it did. -/
def flashErasesUptoRow : OpenClaim := { program := "ytgakjpnfbgmjjaa", sum := "da1e700f8bcc0d467e4ac44a5bbcc7f5a67d972a337b2350a80a9c558da469bb", func := "cistern/cisternlaw01.FlashErases", spec := "flashErases", unfollowed := true, recurses := true, apart := false, narrowed := true }
def FlashErasesUptoSaid : Prop := flashErasesUptoRow.holds Try.pinned (OpenSpec.upto flashErasesSpec)

end Rows
end Go.Proofs.Ytgakjpnfbgmjjaa
