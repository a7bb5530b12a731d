/- Texts of this claim: contracts of the functions that the statement reaches, and plain laws of what they compute. -/
import Derived.Test.YtcallfgihohldaaDoorQQPlays0
import Derived.Test.YtcallfgihohldaaDoorProg
import Derived.Below
import Derived.Deep.Draws
import Derived.Deep.AppendLies
import Derived.Maps.AppendAt
import Derived.OwnWalk
import Derived.Laws.BytesArg
import Derived.Laws.MakeOwn
import Derived.Laws.OwnMore
import Derived.Deep.OwnRows
import Derived.Tactics
import Derived.Lib.ConvBytes
import Derived.Laws.Slices
import Derived.WalkKit
import Derived.KernelRfl
import Derived.RowKit3
import Derived.Deep.LoopGhost
import Derived.Deep.QuietTactic
import Derived.BigQuiet
import Derived.WideLaws
import Derived.Deep.DeepCutAuto
import Derived.Deep.CutBlock
import Derived.Deep.RegionHeld3
import Derived.Laws.Rows
import Derived.Lib.AppendStr
import Derived.ArgAppend
import Derived.Laws.IdiomCopy
import Derived.OrdersHeld
import Derived.Laws.BitsLemmas
import Derived.RowKit
import Derived.Lib.SliceRun
import Derived.Lib.SlBytesConst
import Derived.Maps.OwnSet
import Derived.OpenShut
import Derived.ShutString
import Derived.ChangeOld
import Derived.SizedLaws
import Derived.Deep.Slices
import Derived.Deep.Strs
import Derived.Shelf.Strings.SlTrimAscii
import Derived.Shelf.SlIter.Nil
import Derived.Shelf.SortM.Plain
import Derived.Shelf.SortM.SortNone
import Derived.Test.YtcallfgihohldaaDoorCards
import Derived.Test.YtcallfgihohldaaDoorTie
import Derived.Deep.DeepHandedRow
import Derived.Lay
import Derived.Lib.LaidTab
import Derived.ProofKit
import Derived.Lib.SmallJoins
set_option linter.unusedVariables false
set_option linter.unusedSimpArgs false
namespace Go.Proofs.YtcallfgihohldaaDoor.PA
section

open Go.RowKit Go.Proofs.YtcallfgihohldaaDoorW.PrintWords Go.Proofs.YtcallfgihohldaaDoorW.PrintLast Go.Proofs.YtcallfgihohldaaDoorW.PrintMore
attribute [local go_sem] max2_int min2_int max_two min_two max_three min_three max_four min_four
set_option linter.unusedVariables false
set_option linter.unusedSimpArgs false
theorem bytes_leq : ∀ a b : List UInt8, (Op.bytesLess a b || a == b) = !(Op.bytesLess b a)
  | [], [] => rfl
  | [], _ :: _ => rfl
  | _ :: _, [] => rfl
  | x :: a, y :: b => by
    have ih := bytes_leq a b
    simp only [Op.bytesLess]
    rcases Nat.lt_trichotomy x.toNat y.toNat with h | h | h
    · have h1 : x < y := UInt8.lt_iff_toNat_lt.2 h
      have h2 : ¬ y < x := fun h' => by have := UInt8.lt_iff_toNat_lt.1 h'; omega
      have h3 : (y == x) = false := beq_eq_false_iff_ne.2 (fun e => by rw [e] at h; omega)
      simp [h1, h2, h3]
    · obtain rfl : x = y := UInt8.toNat_inj.1 h
      have h1 : ¬ x < x := fun h' => by have := UInt8.lt_iff_toNat_lt.1 h'; omega
      simp [h1, ← ih]
    · have h1 : y < x := UInt8.lt_iff_toNat_lt.2 h
      have h2 : ¬ x < y := fun h' => by have := UInt8.lt_iff_toNat_lt.1 h'; omega
      have h3 : (x == y) = false := beq_eq_false_iff_ne.2 (fun e => by rw [e] at h; omega)
      simp [h1, h2, h3]
theorem pr_leq (t : TypeId) (a b : ByteArray) : binOp .leq t (.string a) (.string b) = pure (.bool (!(Op.bytesLess b.toList a.toList))) := by
  rw [← bytes_leq]; simp [binOp, Op.stringOp]
theorem pr_geq (t : TypeId) (a b : ByteArray) : binOp .geq t (.string a) (.string b) = pure (.bool (!(Op.bytesLess a.toList b.toList))) := by simp [binOp, Op.stringOp]
theorem pr_gtr (t : TypeId) (a b : ByteArray) : binOp .gtr t (.string a) (.string b) = pure (.bool (Op.bytesLess b.toList a.toList)) := by
  have h2 : Op.bytesLess b.toList a.toList = !(Op.bytesLess a.toList b.toList || a.toList == b.toList) := by rw [bytes_leq]; simp
  rw [h2]; simp [binOp, Op.stringOp]
end
end Go.Proofs.YtcallfgihohldaaDoor.PA
namespace Go.Proofs.YtcallfgihohldaaDoor.PA
section

open Go.RowKit Go.Proofs.YtcallfgihohldaaDoorW.PrintWords Go.Proofs.YtcallfgihohldaaDoorW.PrintLast Go.Proofs.YtcallfgihohldaaDoorW.PrintMore
attribute [local go_sem] max2_int min2_int max_two min_two max_three min_three max_four min_four
set_option linter.unusedVariables false
set_option linter.unusedSimpArgs false
section
open Go.ChangeShapes Go.WideShapes Go.Deep
variable {H : Type} {enc : TypeId × Value → H} {P : Program} {w : World} {base : Nat} {spare : Nat → Bool} {held : Bool}
theorem ra_addr (a : Addr) (m i : Nat) : (a.add m).add i = a.add (m + i) := Go.Deep.add_add a m i
end
end
end Go.Proofs.YtcallfgihohldaaDoor.PA
namespace Go.Proofs.YtcallfgihohldaaDoor.PA
section

open Go.RowKit Go.Proofs.YtcallfgihohldaaDoorW.PrintWords Go.Proofs.YtcallfgihohldaaDoorW.PrintLast Go.Proofs.YtcallfgihohldaaDoorW.PrintMore
attribute [local go_sem] max2_int min2_int max_two min_two max_three min_three max_four min_four
set_option linter.unusedVariables false
set_option linter.unusedSimpArgs false
structure BSt where
  m : ByteArray → Option (List Int)
  ver : Int
  root : ByteArray
  outs : List Int
  calls : Int
def BSt.o (S : BSt) : Int := match S.outs with
  | [] => 0
  | x :: _ => (wrap64 (x.tmod 3 + 3)).tmod 3
def BSt.next (S : BSt) : BSt := { S with outs := S.outs.tail, calls := wrap64 (S.calls + 1) }
def toldI (o : Int) : Int := if o ≠ 0 then 15 else 0
def okC (c : UInt8) : Bool := (97 ≤ c.toNat && c.toNat ≤ 122) || (48 ≤ c.toNat && c.toNat ≤ 57) || c.toNat == 45
def nameB (s : ByteArray) : Bool := !(s.toList == []) && decide (s.size ≤ 40) && s.toList.all okC
def BSt.set (S : BSt) (n : ByteArray) (b : Option (List Int)) : BSt := { S with m := fun k => if k = n then b else S.m k }
def BSt.put (S : BSt) (n : ByteArray) (b : List Int) : BSt × Int :=
  if nameB n then (if 60000 < b.length then (S, 14) else (if S.o = 1 then S.next else S.next.set n (some b), toldI S.o)) else (S, 6)
def BSt.get (S : BSt) (n : ByteArray) : BSt × List Int × Int :=
  if nameB n then (if S.o ≠ 0 then (S.next, [], 15) else match S.m n with
    | none => (S.next, [], 7)
    | some b => (S.next, b, 0)) else (S, [], 6)
def BSt.del (S : BSt) (n : ByteArray) : BSt × Int := if nameB n then (if S.o = 1 then S.next else S.next.set n none, toldI S.o) else (S, 6)
def BSt.rootOf (S : BSt) : BSt × Int × ByteArray × Int := if S.o ≠ 0 then (S.next, 0, ⟨#[]⟩, 15) else (S.next, S.ver, S.root, 0)
def BSt.swap (S : BSt) (v : Int) (n : ByteArray) : BSt × Int :=
  if nameB n then (if S.o ≠ 1 ∧ v = S.ver then { S.next with ver := wrap64 (v + 1), root := n } else S.next, if S.o = 0 ∧ v ≠ S.ver then 17 else toldI S.o) else (S, 6)
def BSt.script (S : BSt) (l : List Int) : BSt := { S with outs := S.outs ++ l }
def BSt.new : BSt := { m := fun _ => none, ver := 0, root := ⟨#[]⟩, outs := [], calls := 0 }
def tokR (v : Value) : Option (DataW Value × List MemPlace) := some (.held v, [])
def litS (s : ByteArray) : Lit := .string s.data.toList
/-- A blob's bytes: a row of the store's own, from its block's head on. -/
def BytesAt (W : World) (F : Nat → Prop) (v : Value) (b : List Int) : Prop :=
  (∃ A, v = .slice A 0 0 ∧ b = []) ∨ ∃ q c cs, v = .slice (some ⟨q, 0, none⟩) b.length c ∧ (b.length ≤ c ∧ b.length ≤ 60000) ∧ F q ∧ W.heap[q]? = some (.cells cs 5 (0, 0)) ∧ ∀ i (h : i < b.length), cs[i]? = some (.int .u8 b[i])
/-- Block bm is a map of at most n entries: the names with their bytes. -/
def MapAt (W : World) (F : Nat → Prop) (bm n : Nat) (m : ByteArray → Option (List Int)) : Prop :=
  ∃ D, W.ownsMap (H := Value) Tryd.prog 9 tokR bm n D ∧ F bm ∧
    ∀ k : ByteArray, k.size ≤ maxLen → (Maps.has D (litS k) = (m k).isSome) ∧ ∀ b, m k = some b → ∃ v, (∀ z, D.atKey (litS k) z = .held v) ∧ BytesAt W F v b
/-- The outcomes to come: a row of the store's own that may begin anywhere in its block, room behind it. -/
def OutAt (W : World) (F : Nat → Prop) (v : Value) (l : List Int) : Prop :=
  (∃ A, v = .slice A 0 0 ∧ l = []) ∨ ∃ g off c cs, v = .slice (some ⟨g, off, none⟩) l.length c ∧ l.length ≤ c ∧ 0 < c ∧ F g ∧ W.heap[g]? = some (.cells cs 3 (0, 0)) ∧ off + c ≤ cs.size ∧ cs.size ≤ maxLen ∧ ∀ i (h : i < l.length), cs[off + i]? = some (.int .i64 l[i])
def BAt (W : World) (F : Nat → Prop) (g n : Nat) (S : BSt) : Prop :=
  ∃ bm vo, W.heap[g]? = some (.cells #[.map (some bm), .int .i64 S.ver, .string S.root, vo, .int .i64 S.calls] 55 (0, 0)) ∧ F g ∧ MapAt W F bm n S.m ∧ OutAt W F vo S.outs
theorem OutAt.form {W : World} {F : Nat → Prop} {v : Value} {l : List Int} (h : OutAt W F v l) : ∃ A c, v = .slice A l.length c ∧ l.length ≤ c := by
  rcases h with ⟨A, rfl, rfl⟩ | ⟨g, off, c, cs, rfl, hc, _⟩
  · exact ⟨A, 0, rfl, Nat.le_refl _⟩
  · exact ⟨_, c, rfl, hc⟩
theorem OutAt.kept {W W' : World} {F : Nat → Prop} {v : Value} {l : List Int} (h : OutAt W F v l) (hm : ∀ (k : Nat) (cs : Array Value), W.heap[k]? = some (Obj.cells cs 3 (0, 0)) → W'.heap[k]? = W.heap[k]?) : OutAt W' F v l := by
  rcases h with h | ⟨g, off, c, cs, h1, h2, h3, h4, h5, h6⟩
  · exact .inl h
  · exact .inr ⟨g, off, c, cs, h1, h2, h3, h4, (hm g cs h5).trans h5, h6⟩
theorem OutAt.head {W : World} {F : Nat → Prop} {v : Value} {x : Int} {l : List Int} (h : OutAt W F v (x :: l)) : ∃ g off c, v = .slice (some ⟨g, off, none⟩) (l.length + 1) c ∧ l.length + 1 ≤ c ∧ (∃ cs, W.heap[g]? = some (.cells cs 3 (0, 0)) ∧ cs[off]? = some (.int .i64 x)) ∧ OutAt W F (.slice (if c = 1 then some ⟨g, off, none⟩ else some ⟨g, off + 1, none⟩) l.length (c - 1)) l := by
  rcases h with ⟨A, _, e⟩ | ⟨g, off, c, cs, rfl, h2, h3, h4, h5, h6, h7, h8⟩
  · cases e
  · have h2' : l.length + 1 ≤ c := h2
    refine ⟨g, off, c, rfl, h2', ⟨cs, h5, by simpa using h8 0 (Nat.succ_pos _)⟩, ?_⟩
    by_cases hc : c = 1
    · subst hc
      have : l = [] := List.eq_nil_of_length_eq_zero (by omega)
      subst this
      exact .inl ⟨_, rfl, rfl⟩
    · rw [if_neg hc]
      refine .inr ⟨g, off + 1, c - 1, cs, rfl, by omega, by omega, h4, h5, by omega, h7, fun i hi => ?_⟩
      have := h8 (i + 1) (Nat.succ_lt_succ hi)
      rw [show off + 1 + i = off + (i + 1) by omega]
      simpa using this
theorem BytesAt.keep {W W' : World} {F : Nat → Prop} {v : Value} {b : List Int} (h : BytesAt W F v b) {g t : Nat} {cs : Array Value} {fr : Nat × Nat} (hg : W.heap[g]? = some (.cells cs t fr)) (ht : t ≠ 5) (hs : ∀ k, k < W.heap.size → k ≠ g → W'.heap[k]? = W.heap[k]?) : BytesAt W' F v b := by
  rcases h with h | ⟨q, c, ds, h1, h2, h3, h4, h5⟩
  · exact .inl h
  · have hne : q ≠ g := fun e => by
      subst e
      rw [hg] at h4
      injection h4 with h4; injection h4 with _ h6
      exact ht h6
    exact .inr ⟨q, c, ds, h1, h2, h3, (hs q (blk_lt h4) hne).trans h4, h5⟩
theorem OutAt.keep {W W' : World} {F : Nat → Prop} {v : Value} {b : List Int} (h : OutAt W F v b) {g t : Nat} {cs : Array Value} {fr : Nat × Nat} (hg : W.heap[g]? = some (.cells cs t fr)) (ht : t ≠ 3) (hs : ∀ k, k < W.heap.size → k ≠ g → W'.heap[k]? = W.heap[k]?) : OutAt W' F v b := by
  rcases h with h | ⟨q, off, c, ds, h1, h2, h3, h3', h4, h5⟩
  · exact .inl h
  · have hne : q ≠ g := fun e => by
      subst e
      rw [hg] at h4
      injection h4 with h4; injection h4 with _ h6
      exact ht h6
    exact .inr ⟨q, off, c, ds, h1, h2, h3, h3', (hs q (blk_lt h4) hne).trans h4, h5⟩
theorem MapAt.keep {W W' : World} {F : Nat → Prop} {bm n : Nat} {m : ByteArray → Option (List Int)} (h : MapAt W F bm n m) {g t : Nat} {cs : Array Value} {fr : Nat × Nat} (hg : W.heap[g]? = some (.cells cs t fr)) (ht : t ≠ 5) (hs : ∀ k, k < W.heap.size → k ≠ g → W'.heap[k]? = W.heap[k]?) : MapAt W' F bm n m := by
  obtain ⟨D, ⟨es, clock, hb, hr⟩, hF, hk⟩ := h
  have hne : bm ≠ g := fun e => by
    subst e
    rw [hg] at hb
    cases hb
  refine ⟨D, ⟨es, clock, (hs bm (blk_lt hb) hne).trans hb, hr⟩, hF, fun k hkl => ⟨(hk k hkl).1, fun b hb' => ?_⟩⟩
  obtain ⟨v, h1, h2⟩ := (hk k hkl).2 b hb'
  exact ⟨v, h1, h2.keep hg ht hs⟩
theorem grown_one (W : World) (g i : Nat) (v : Value) : W.grownBy (W.setCell ⟨g, i, none⟩ v) (some g) := ⟨rfl, rfl, rfl, by simp [World.setCell], fun k _ hne => Below.heap_setCell W ⟨g, i, none⟩ v k (fun e => hne (congrArg some e))⟩
set_option maxHeartbeats 1000000 in
theorem take_calls {W : World} {F : Nat → Prop} {g n : Nat} {S : BSt} (h : BAt W F g n S) :
    Calls Tryd.prog 24 #[.pointer (some ⟨g, 0, none⟩)] W fun e W' => e = .returned (.int .i64 S.o) ∧ BAt W' F g n S.next ∧ W.grownBy W' (some g) := by
  obtain ⟨bm, vo, hb, hF, hM, hO⟩ := h
  have c3 : W.cell? ⟨g, 3, none⟩ = some vo := blk_cell hb 3
  have c4 : W.cell? ⟨g, 4, none⟩ = some (.int .i64 S.calls) := blk_cell hb 4
  have f3 : W.frozen? ⟨g, 3, none⟩ = false := blk_frozen hb 3
  have f4 : W.frozen? ⟨g, 4, none⟩ = false := blk_frozen hb 4
  have hw : IntKind.i64.wrap (S.calls + 1) = wrap64 (S.calls + 1) := by unfold wrap64; exact IntKind.wrap_i64 _
  have HB := Aside0.mk hb
  have HF := Aside0.mk hF
  have HM := Aside0.mk hM
  have HO := Aside0.mk hO
  clear hb hF hM hO
  rcases hs : S.outs with _ | ⟨x, l⟩
  · have HS := Aside0.mk hs
    rw [hs] at HO
    obtain ⟨A, c, rfl, _⟩ := HO.out.form
    replace c3 : W.cell? ⟨g, 3, none⟩ = some (.slice A 0 c) := c3
    clear hs
    go_enter Tryd.func24, Tryd.ntmps24
    go_wp2_with fail
    go_ret
    have hg := grown_one W g 4 (.int .i64 (wrap64 (S.calls + 1)))
    have hk : ∀ k, k < W.heap.size → k ≠ g → (W.setCell ⟨g, 4, none⟩ (.int .i64 (wrap64 (S.calls + 1)))).heap[k]? = W.heap[k]? := fun k hl hn => hg.block k hl (fun e => hn (Option.some.inj e))
    have ho : S.o = 0 := by unfold BSt.o; rw [HS.out]
    refine ⟨by rw [ho]; rfl, ⟨bm, _, heap_setCell_same W g 4 _ 55 (.int .i64 (wrap64 (S.calls + 1))) HB.out, HF.out, HM.out.keep HB.out (by decide) hk, ?_⟩, hg⟩
    unfold BSt.next
    rw [HS.out]
    exact HO.out.keep HB.out (by decide) hk
  · rw [hs] at HO
    have HS := Aside0.mk hs
    clear hs
    obtain ⟨q, off, c, rfl, hlc, ⟨ds, hq, hx⟩, hR⟩ := HO.out.head
    have hqg : q ≠ g := fun e => by
      subst e
      have := HB.out
      rw [hq] at this
      injection this with this; injection this with _ h6
      cases h6
    have x0 : W.cell? ⟨q, off, none⟩ = some (.int .i64 x) := (blk_cell hq off).trans hx
    have HRR := Aside0.mk hR
    have HQ := Aside0.mk hqg
    have hw1 : IntKind.i64.wrap (x.tmod 3 + 3) = wrap64 (x.tmod 3 + 3) := by unfold wrap64; exact IntKind.wrap_i64 _
    clear hR hq hx
    have ho : S.o = (wrap64 (x.tmod 3 + 3)).tmod 3 := by unfold BSt.o; rw [HS.out]
    have hn : S.next = { S with outs := l, calls := wrap64 (S.calls + 1) } := by unfold BSt.next; rw [HS.out]; rfl
    rw [ho, hn]
    clear ho hn
    by_cases hc : c = 1
    · subst hc
      rw [if_pos rfl] at HRR
      obtain rfl : l = [] := List.eq_nil_of_length_eq_zero (by omega)
      replace HRR : Aside0 (OutAt W F (.slice (some ⟨q, off, none⟩) 0 0) []) := HRR
      replace c3 : W.cell? ⟨g, 3, none⟩ = some (.slice (some ⟨q, off, none⟩) 1 1) := c3
      go_enter Tryd.func24, Tryd.ntmps24
      go_wp2_with fail
      go_ret
      have g1 := grown_one W g 4 (.int .i64 (wrap64 (S.calls + 1)))
      have g2 := grown_one (W.setCell ⟨g, 4, none⟩ (.int .i64 (wrap64 (S.calls + 1)))) g 3 (.slice (some ⟨q, off, none⟩) 0 0)
      have hg := g1.trans g2
      have hk : ∀ k, k < W.heap.size → k ≠ g → _ = W.heap[k]? := fun k hl hn => hg.block k hl (fun e => hn (Option.some.inj e))
      exact ⟨rfl, ⟨bm, _, heap_setCell_same _ g 3 _ 55 _ (heap_setCell_same W g 4 _ 55 (.int .i64 (wrap64 (S.calls + 1))) HB.out), HF.out, HM.out.keep HB.out (by decide) hk, HRR.out.keep HB.out (by decide) hk⟩, hg⟩
    · rw [if_neg hc] at HRR
      go_enter Tryd.func24, Tryd.ntmps24
      go_wp2_with fail
      go_ret
      have g1 := grown_one W g 4 (.int .i64 (wrap64 (S.calls + 1)))
      have g2 := grown_one (W.setCell ⟨g, 4, none⟩ (.int .i64 (wrap64 (S.calls + 1)))) g 3 (.slice (some ⟨q, off + 1, none⟩) l.length (c - 1))
      have hg := g1.trans g2
      have hk : ∀ k, k < W.heap.size → k ≠ g → _ = W.heap[k]? := fun k hl hn => hg.block k hl (fun e => hn (Option.some.inj e))
      exact ⟨rfl, ⟨bm, _, heap_setCell_same _ g 3 _ 55 _ (heap_setCell_same W g 4 _ 55 (.int .i64 (wrap64 (S.calls + 1))) HB.out), HF.out, HM.out.keep HB.out (by decide) hk, HRR.out.keep HB.out (by decide) hk⟩, hg⟩
set_option maxHeartbeats 1000000 in
theorem calls_calls {W : World} {F : Nat → Prop} {g n : Nat} {S : BSt} (h : BAt W F g n S) :
    Calls Tryd.prog 17 #[.pointer (some ⟨g, 0, none⟩)] W fun e W' => e = .returned (.int .i64 S.calls) ∧ W' = W := by
  obtain ⟨bm, vo, hb, _⟩ := h
  have c4 : W.cell? ⟨g, 4, none⟩ = some (.int .i64 S.calls) := blk_cell hb 4
  clear hb
  go_enter Tryd.func17, Tryd.ntmps17
  go_wp2_with fail
  go_ret
  exact ⟨rfl, rfl⟩
set_option maxHeartbeats 1000000 in
theorem new_calls (w : World) : Calls Tryd.prog 10 #[] w fun e W' => ∃ g, e = .returned (.pointer (some ⟨g, 0, none⟩)) ∧ BAt W' (fun k => w.heap.size ≤ k) g 0 BSt.new ∧ Below w.heap.size w W' := by
  have hmm := @run_makeMap Tryd.prog
  have hb1 := below_alloc (Below.refl w.heap.size w) (.map #[] 0)
  have hb2 := below_alloc hb1 (.cells #[.map (some w.heap.size), .int .i64 0, .string ⟨#[]⟩, .slice none 0 0, .int .i64 0] 55)
  have hsz : (w.alloc (.map #[] 0)).heap.size = w.heap.size + 1 := by simp
  have h2 := heap_alloc_new (w.alloc (.map #[] 0)) (.cells #[.map (some w.heap.size), .int .i64 0, .string ⟨#[]⟩, .slice none 0 0, .int .i64 0] 55)
  have hm0 := (World.ownsMap_made w Tryd.prog 9 tokR).alloc (.cells #[.map (some w.heap.size), .int .i64 0, .string ⟨#[]⟩, .slice none 0 0, .int .i64 0] 55)
  have B2 := Aside0.mk hb2
  have H2 := Aside0.mk h2
  have M0 := Aside0.mk hm0
  clear hb1 hb2 h2 hm0 hsz
  go_enter Tryd.func10, Tryd.ntmps10
  go_wp2_with fail
  go_ret
  have hs1 : (w.alloc (.map #[] 0)).heap.size = w.heap.size + 1 := by simp
  have hh := H2.out
  rw [hs1] at hh
  exact ⟨w.heap.size + 1, rfl, ⟨w.heap.size, _, hh, Nat.le_succ _, ⟨_, M0.out, Nat.le_refl _, fun k hk => ⟨rfl, fun b hb => by cases hb⟩⟩, .inl ⟨none, rfl, rfl⟩⟩, B2.out⟩
end
end Go.Proofs.YtcallfgihohldaaDoor.PA
namespace Go.Proofs.YtcallfgihohldaaDoor.PA
section

open Go.RowKit Go.Proofs.YtcallfgihohldaaDoorW.PrintWords Go.Proofs.YtcallfgihohldaaDoorW.PrintLast Go.Proofs.YtcallfgihohldaaDoorW.PrintMore
attribute [local go_sem] max2_int min2_int max_two min_two max_three min_three max_four min_four
set_option linter.unusedVariables false
set_option linter.unusedSimpArgs false
theorem heap_setCells (g : Nat) (t : TypeId) : ∀ (vs : List Value) (o : Nat) (w : World) (cs : Array Value), w.heap[g]? = some (.cells cs t (0, 0)) → o + vs.length ≤ cs.size →
    ∃ cs' : Array Value, (w.setCells g o vs).heap[g]? = some (.cells cs' t (0, 0)) ∧ cs'.size = cs.size ∧ (∀ i, i < o → cs'[i]? = cs[i]?) ∧ (∀ i, o + vs.length ≤ i → cs'[i]? = cs[i]?) ∧ ∀ i u, vs[i]? = some u → cs'[o + i]? = some u
  | [], o, w, cs, h, _ => ⟨cs, h, rfl, fun _ _ => rfl, fun _ _ => rfl, fun i u hu => by simp at hu⟩
  | v :: r, o, w, cs, h, hl => by
    simp only [List.length_cons] at hl
    have h1 := heap_setCell_same w g o cs t v h
    obtain ⟨cs', a1, a2, a3, a4, a5⟩ := heap_setCells g t r (o + 1) _ _ h1 (by simp; omega)
    refine ⟨cs', by rw [World.setCells]; exact a1, by rw [a2]; simp, fun i hi => ?_, fun i hi => ?_, fun i u hu => ?_⟩
    · rw [a3 i (by omega), Array.getElem?_setIfInBounds_ne (by omega)]
    · simp only [List.length_cons] at hi
      rw [a4 i (by omega), Array.getElem?_setIfInBounds_ne (by omega)]
    · cases i with
      | zero =>
        cases hu
        rw [Nat.add_zero, a3 o (by omega), Array.getElem?_setIfInBounds_self_of_lt (by omega)]
      | succ i =>
        rw [show o + (i + 1) = o + 1 + i by omega]
        exact a5 i u hu
theorem size_setCells' (g : Nat) : ∀ (vs : List Value) (o : Nat) (w : World), (w.setCells g o vs).heap.size = w.heap.size
  | [], _, _ => rfl
  | v :: r, o, w => by
    rw [World.setCells, size_setCells' g r (o + 1)]
    simp [World.setCell]
theorem below_cell {w w1 : World} (hb : Below w.heap.size w w1) {p : Addr} {u : Value} (h : w.cell? p = some u) : w1.cell? p = some u := by
  have hl : p.block < w.heap.size := by
    rcases Nat.lt_or_ge p.block w.heap.size with h' | h'
    · exact h'
    · exfalso
      unfold World.cell? at h
      rw [Array.getElem?_eq_none h'] at h
      simp at h
  rw [hb.cell (p := p) hl]
  exact h
theorem wpList_append_ran {P : Program} {ops : Array Oper} {rest : List Oper} {o : Oper} {a : Act} {Q : Exit → Act → World → Prop} {w w' : World} (hg : o.guard = none) (s x : Operand) (t : TypeId)
    (hop : o.op = Op.call { callee := Callee.builtin Builtin.append, args := #[s, x], argTypes := #[t, t] }) (v1 v2 v : Value) (hs : a.eval s = v1) (hx : a.eval x = v2)
    (hrun : (Builtin.append_ #[t, t] o.type #[v1, v2]).run P w = .ok v w') (h : wpList P ops Q rest (a.put o.dst v) w') : wpList P ops Q (o :: rest) a w := by
  refine wpList_plain hg fun K hK => ?_
  unfold Oper.wp execOp
  simp only [hop, resolve, invoke, builtin, Sem.run_bind, Sem.run_pure, Result.andThen_ok, List.map_toArray, List.map_cons, List.map_nil, hs, hx, hrun]
  exact hK _ _ h
theorem heap_setCells_other {g k : Nat} (hk : k ≠ g) : ∀ (vs : List Value) (o : Nat) (w : World), (w.setCells g o vs).heap[k]? = w.heap[k]?
  | [], _, _ => rfl
  | v :: r, o, w => by
    rw [World.setCells, heap_setCells_other hk r (o + 1)]
    exact Below.heap_setCell w ⟨g, o, none⟩ v k hk
theorem strm_setCells (g : Nat) : ∀ (vs : List Value) (o : Nat) (w : World), (w.setCells g o vs).os = w.os ∧ (w.setCells g o vs).tape = w.tape ∧ (w.setCells g o vs).output = w.output
  | [], _, _ => ⟨rfl, rfl, rfl⟩
  | v :: r, o, w => by
    rw [World.setCells]
    exact strm_setCells g r (o + 1) _
/-- What has turned is the store's alone. -/
structure Chg (F : Nat → Prop) (w w' : World) : Prop where
  os : w'.os = w.os
  tape : w'.tape = w.tape
  output : w'.output = w.output
  size : w.heap.size ≤ w'.heap.size
  block : ∀ k, k < w.heap.size → ¬ F k → w'.heap[k]? = w.heap[k]?
theorem Chg.refl (F : Nat → Prop) (w : World) : Chg F w w := ⟨rfl, rfl, rfl, Nat.le_refl _, fun _ _ _ => rfl⟩
theorem Chg.trans {F : Nat → Prop} {a b c : World} (h : Chg F a b) (k : Chg F b c) : Chg F a c :=
  ⟨k.os.trans h.os, k.tape.trans h.tape, k.output.trans h.output, Nat.le_trans h.size k.size, fun i hi hF => (k.block i (Nat.lt_of_lt_of_le hi h.size) hF).trans (h.block i hi hF)⟩
theorem Chg.of {F : Nat → Prop} {a b : World} (h : Below a.heap.size a b) : Chg F a b := ⟨h.os, h.tape, h.output, h.size, fun k hk _ => h.block k hk⟩
theorem Chg.grown {F : Nat → Prop} {a b : World} {g : Nat} (h : a.grownBy b (some g)) (hF : F g) : Chg F a b := ⟨h.os, h.tape, h.output, h.size, fun k hk hn => h.block k hk (fun e => hn (Option.some.inj e ▸ hF))⟩
theorem Chg.below {F : Nat → Prop} {a b : World} {B : Nat} (h : Chg F a b) (hF : ∀ k, F k → B ≤ k) (hB : B ≤ a.heap.size) : Below B a b :=
  ⟨h.os, h.tape, h.output, h.size, fun k hk => h.block k (by omega) (fun hf => by have := hF k hf; omega)⟩
/-- The store's blocks are F before and F' behind; new ones are new. -/
structure Went (F F' : Nat → Prop) (W W' : World) : Prop where
  chg : Chg F W W'
  new : ∀ k, F' k → F k ∨ (W.heap.size ≤ k ∧ k < W'.heap.size)
theorem Went.refl (F : Nat → Prop) (w : World) : Went F F w w := ⟨Chg.refl F w, fun _ h => .inl h⟩
theorem Went.of {F : Nat → Prop} {a b : World} (h : Below a.heap.size a b) : Went F F a b := ⟨Chg.of h, fun _ h => .inl h⟩
theorem Went.trans {F G H : Nat → Prop} {a b c : World} (h : Went F G a b) (k : Went G H b c) : Went F H a c :=
  ⟨⟨k.chg.os.trans h.chg.os, k.chg.tape.trans h.chg.tape, k.chg.output.trans h.chg.output, Nat.le_trans h.chg.size k.chg.size, fun i hi hF =>
    (k.chg.block i (Nat.lt_of_lt_of_le hi h.chg.size) (fun hg => by
      rcases h.new i hg with h1 | h1
      · exact hF h1
      · omega)).trans (h.chg.block i hi hF)⟩, fun i hi => by
    rcases k.new i hi with h1 | h1
    · rcases h.new i h1 with h2 | h2
      · exact .inl h2
      · exact .inr ⟨h2.1, Nat.lt_of_lt_of_le h2.2 k.chg.size⟩
    · exact .inr ⟨Nat.le_trans h.chg.size h1.1, h1.2⟩⟩
theorem Went.ge {F F' : Nat → Prop} {W W' : World} (h : Went F F' W W') {B : Nat} (hF : ∀ k, F k → B ≤ k) (hB : B ≤ W.heap.size) : ∀ k, F' k → B ≤ k := fun k hk => by
  rcases h.new k hk with h1 | h1
  · exact hF k h1
  · omega
theorem Went.lt {F F' : Nat → Prop} {W W' : World} (h : Went F F' W W') (hF : ∀ k, F k → k < W.heap.size) : ∀ k, F' k → k < W'.heap.size := fun k hk => by
  rcases h.new k hk with h1 | h1
  · exact Nat.lt_of_lt_of_le (hF k h1) h.chg.size
  · exact h1.2
/-- A block of the caller's own stays the caller's. -/
theorem Went.out {F F' : Nat → Prop} {W W' : World} (h : Went F F' W W') {k : Nat} (hk : k < W.heap.size) (hF : ¬ F k) : ¬ F' k := fun hf => by
  rcases h.new k hf with h1 | h1
  · exact hF h1
  · omega
theorem BytesAt.move {W W' : World} {F F' : Nat → Prop} {v : Value} {b : List Int} (h : BytesAt W F v b) (hm : ∀ k cs, F k → W.heap[k]? = some (.cells cs 5 (0, 0)) → W'.heap[k]? = W.heap[k]?) (hF : ∀ k, F k → k < W.heap.size → F' k) : BytesAt W' F' v b := by
  rcases h with h | ⟨q, c, ds, h1, h2, h3, h4, h5⟩
  · exact .inl h
  · exact .inr ⟨q, c, ds, h1, h2, hF q h3 (blk_lt h4), (hm q ds h3 h4).trans h4, h5⟩
theorem OutAt.move {W W' : World} {F F' : Nat → Prop} {v : Value} {b : List Int} (h : OutAt W F v b) (hm : ∀ k cs, F k → W.heap[k]? = some (.cells cs 3 (0, 0)) → W'.heap[k]? = W.heap[k]?) (hF : ∀ k, F k → k < W.heap.size → F' k) : OutAt W' F' v b := by
  rcases h with h | ⟨q, off, c, ds, h1, h2, h3, h3', h4, h5⟩
  · exact .inl h
  · exact .inr ⟨q, off, c, ds, h1, h2, h3, hF q h3' (blk_lt h4), (hm q ds h3' h4).trans h4, h5⟩
theorem MapAt.move {W W' : World} {F F' : Nat → Prop} {bm n : Nat} {m : ByteArray → Option (List Int)} (h : MapAt W F bm n m) (hm : ∀ k cs, F k → W.heap[k]? = some (.cells cs 5 (0, 0)) → W'.heap[k]? = W.heap[k]?)
    (hm2 : ∀ k es clock, F k → W.heap[k]? = some (.map es clock) → W'.heap[k]? = W.heap[k]?) (hF : ∀ k, F k → k < W.heap.size → F' k) : MapAt W' F' bm n m := by
  obtain ⟨D, ⟨es, clock, hb, hr⟩, hbF, hk⟩ := h
  refine ⟨D, ⟨es, clock, (hm2 bm es clock hbF hb).trans hb, hr⟩, hF bm hbF (blk_lt hb), fun k hkl => ⟨(hk k hkl).1, fun b hb' => ?_⟩⟩
  obtain ⟨v, h1, h2⟩ := (hk k hkl).2 b hb'
  exact ⟨v, h1, h2.move hm hF⟩
theorem BAt.move {W W' : World} {F F' : Nat → Prop} {g n : Nat} {S : BSt} (h : BAt W F g n S) (hm : ∀ k, F k → k < W.heap.size → W'.heap[k]? = W.heap[k]?) (hF : ∀ k, F k → k < W.heap.size → F' k) : BAt W' F' g n S := by
  obtain ⟨bm, vo, hb, hbF, hM, hO⟩ := h
  exact ⟨bm, vo, (hm g hbF (blk_lt hb)).trans hb, hF g hbF (blk_lt hb), hM.move (fun k cs hk h => hm k hk (blk_lt h)) (fun k es cl hk h => hm k hk (blk_lt h)) hF, hO.move (fun k cs hk h => hm k hk (blk_lt h)) hF⟩
theorem BAt.below {W W' : World} {F : Nat → Prop} {g n : Nat} {S : BSt} (h : BAt W F g n S) (hb : Below W.heap.size W W') : BAt W' F g n S := h.move (fun k _ hk => hb.block k hk) (fun _ h _ => h)
theorem OutAt.of_own {W W' : World} {F : Nat → Prop} {v : Value} {l : List Int} (h : W'.ownsRow W.heap.size 3 1 v l.length (l.map (fun x => Value.int .i64 x))) : OutAt W' (fun k => F k ∨ (W.heap.size ≤ k ∧ k < W'.heap.size)) v l := by
  rcases h.2 with ⟨rfl, h0⟩ | ⟨g, cap, cur, rfl, hbg, hgb, hnc, hcm, hcs, htake⟩
  · have : l = [] := List.eq_nil_of_length_eq_zero h0
    subst this
    exact .inl ⟨none, rfl, rfl⟩
  · rcases Nat.eq_zero_or_pos cap with h0 | h0
    · subst h0
      have : l = [] := List.eq_nil_of_length_eq_zero (by omega)
      subst this
      exact .inl ⟨_, rfl, rfl⟩
    · refine .inr ⟨g, 0, cap, cur, rfl, hnc, h0, .inr ⟨hbg, blk_lt hgb⟩, hgb, by omega, by omega, fun i hi => ?_⟩
      have h1 : (l.map (fun x => Value.int .i64 x))[i]? = some (.int .i64 l[i]) := by rw [List.getElem?_map, List.getElem?_eq_getElem hi]; rfl
      rw [← htake, List.getElem?_take] at h1
      split at h1
      · rw [Nat.zero_add, ← Array.getElem?_toList]; exact h1
      · cases h1
theorem C_i64 {W : World} {ad : Addr} {n : Nat} {l : List Int} (hr : (Kd.int .i64).C W (some ad) n l) : ∀ j u, (l.map (fun x => Value.int .i64 x))[j]? = some u → W.cell? (ad.add j) = some u := by
  intro j u hu
  rw [List.getElem?_map, Option.map_eq_some_iff] at hu
  obtain ⟨x, hx, rfl⟩ := hu
  have hl : j < l.length := (List.getElem?_eq_some_iff.1 hx).1
  obtain ⟨ad', e, h⟩ := hr.2.2 (by have := hr.1; omega)
  injection e with e
  subst e
  obtain ⟨cs, h1, h2, h3⟩ := h j x hx
  have h2' : cs = [.int .i64 x] := h2
  have := h3 0 (.int .i64 x) (by rw [h2']; rfl)
  rw [show j * (Kd.int .i64).sz + 0 = j from Nat.mul_one j] at this
  exact this
theorem info3' : (Tryd.prog.info? 3).map (fun i => (i.zero, i.size, i.bytes)) = some (some (.int .i64 0), 1, 8) := by kernel_rfl
theorem out_append {W : World} {F : Nat → Prop} {v : Value} {l : List Int} (h : OutAt W F v l) (A : Option Addr) (c : Nat) (l2 : List Int) (hr : (Kd.int .i64).C W A l2.length l2) (hn : l.length + l2.length ≤ 10000000) (ty : TypeId) :
    ∃ v' W', (Builtin.append_ #[23, 23] ty #[v, .slice A l2.length c]).run Tryd.prog W = .ok v' W' ∧ OutAt W' (fun k => F k ∨ (W.heap.size ≤ k ∧ k < W'.heap.size)) v' (l ++ l2) ∧ (W'.os = W.os ∧ W'.tape = W.tape ∧ W'.output = W.output) ∧ W.heap.size ≤ W'.heap.size ∧
      ∀ k, k < W.heap.size → (F k → ∀ cs, W.heap[k]? ≠ some (.cells cs 3 (0, 0))) → W'.heap[k]? = W.heap[k]? := by
  have ht : Tryd.prog.underlying 23 = some (.slice 3) := by kernel_rfl
  obtain ⟨i, hi, hzz⟩ := Option.map_eq_some_iff.1 info3'
  simp only [Prod.mk.injEq] at hzz
  obtain ⟨hz, hs, hb⟩ := hzz
  have hmono : ∀ {v : Value} {l : List Int}, OutAt W F v l → OutAt W (fun k => F k ∨ (W.heap.size ≤ k ∧ k < W.heap.size)) v l := fun h => h.move (fun _ _ _ _ => rfl) (fun _ h _ => .inl h)
  rcases Nat.eq_zero_or_pos l2.length with h0 | h0
  · have e2 : l2 = [] := List.eq_nil_of_length_eq_zero h0
    subst e2
    obtain ⟨A0, c0, rfl, hc0⟩ := h.form
    refine ⟨.slice A0 l.length c0, W, ?_, by rw [List.append_nil]; exact hmono h, ⟨rfl, rfl, rfl⟩, Nat.le_refl _, fun _ _ _ => rfl⟩
    cases A <;> cases A0 <;> simp [Builtin.append_, run_underlying ht, sizeOf, typeInfo, hi, Builtin.lenOf, Builtin.firstCells, loadCells, loadCellsFrom, storeCells, Result.andThen, hc0]
  obtain ⟨ad, rfl, _⟩ := hr.2.2 h0
  have hnews := C_i64 hr
  have hml : max l.length l2.length ≤ 10000000 := by omega
  have hmx : l.length + l2.length ≤ maxLen := by simp only [maxLen]; omega
  rcases h with ⟨A0, rfl, rfl⟩ | ⟨g, off, cap, cs, rfl, h2, h3, h4, h5, h6, h7, h8⟩
  · have fin : ∀ {v' : Value} {W' : World}, W'.ownsRow W.heap.size 3 1 v' (0 + l2.length) ([] ++ l2.map (fun x => Value.int .i64 x)) → W.grownBy W' none → (OutAt W' (fun k => F k ∨ (W.heap.size ≤ k ∧ k < W'.heap.size)) v' ([] ++ l2) ∧ (W'.os = W.os ∧ W'.tape = W.tape ∧ W'.output = W.output) ∧ W.heap.size ≤ W'.heap.size ∧
      ∀ k, k < W.heap.size → (F k → ∀ cs, W.heap[k]? ≠ some (.cells cs 3 (0, 0))) → W'.heap[k]? = W.heap[k]?) := fun ho hg => by
      rw [Nat.zero_add, List.nil_append] at ho
      exact ⟨OutAt.of_own ho, ⟨hg.os, hg.tape, hg.output⟩, hg.size, fun k hk _ => hg.block k hk (by simp)⟩
    cases A0 with
    | none =>
      obtain ⟨v', w', hrun, ho, hg, _⟩ := run_append_own (P := Tryd.prog) W W.heap.size 23 ty 3 i (.int .i64 0) 1 8 ht hi hz hs hb rfl (by omega) (.slice none 0 0) 0 [] (World.ownsRow_nil _ _ _ _) ad l2.length c (l2.map (fun x => Value.int .i64 x)) (by simp) hnews (by simp [Value.oneCell']) (by simp only [List.length_nil, Nat.zero_add] at hmx; omega) (by omega) (Nat.le_refl _)
      exact ⟨v', w', hrun, fin ho hg⟩
    | some b =>
      obtain ⟨v', w', hrun, ho, hg⟩ := run_append_arg_grows (P := Tryd.prog) W 23 ty 3 i (.int .i64 0) 1 8 ht hi hz hs hb rfl (by omega) b 0 0 [] rfl (by simp) ad l2.length c (l2.map (fun x => Value.int .i64 x)) (by simp) hnews (by omega) (by simp only [List.length_nil, Nat.zero_add] at hmx; omega) (by omega)
      exact ⟨v', w', hrun, fin ho hg⟩
  · have holds : ∀ j u, (l.map (fun x => Value.int .i64 x))[j]? = some u → W.cell? ((⟨g, off, none⟩ : Addr).add j) = some u := fun j u hu => by
      rw [List.getElem?_map, Option.map_eq_some_iff] at hu
      obtain ⟨x, hx, rfl⟩ := hu
      obtain ⟨hl, rfl⟩ := List.getElem?_eq_some_iff.1 hx
      exact (congrArg W.cell? (Addr.add_lit g off j)).trans ((blk_cell h5 _).trans (h8 j hl))
    by_cases hroom : l.length + l2.length ≤ cap
    · have hrun := run_append_room_cells (P := Tryd.prog) W 23 ty 3 i ht hi g off l.length cap ad l2.length c (l2.map (fun x => Value.int .i64 x)) (by simp [hs]) hnews (by simp [Value.oneCell']) hroom
        (fun j hj => by rw [blk_cell h5, hs, Array.getElem?_eq_getElem (by rw [List.length_map] at hj; omega)]; rfl) (fun j _ => blk_frozen h5 _)
      rw [hs, Nat.mul_one] at hrun
      obtain ⟨cs', a1, a2, a3, a4, a5⟩ := heap_setCells g 3 (l2.map (fun x => Value.int .i64 x)) (off + l.length) W cs h5 (by rw [List.length_map]; omega)
      have hbl : ∀ k, k ≠ g → (W.setCells g (off + l.length) (l2.map (fun x => Value.int .i64 x))).heap[k]? = W.heap[k]? := fun k hk => heap_setCells_other hk _ _ _
      have hsz := size_setCells' g (l2.map (fun x => Value.int .i64 x)) (off + l.length) W
      refine ⟨_, _, hrun, .inr ⟨g, off, cap, cs', by rw [List.length_append], by rw [List.length_append]; exact hroom, h3, .inl h4, a1, by omega, by omega, fun j hj => ?_⟩, strm_setCells _ _ _ _, by omega, fun k hk hne => hbl k (fun e => by subst e; exact hne h4 cs h5)⟩
      by_cases hjl : j < l.length
      · rw [a3 _ (by omega), h8 j hjl]
        simp [List.getElem_append, hjl]
      · have hj2 : j - l.length < l2.length := by rw [List.length_append] at hj; omega
        have := a5 (j - l.length) (.int .i64 l2[j - l.length]) (by rw [List.getElem?_map, List.getElem?_eq_getElem hj2]; rfl)
        rw [show off + j = off + l.length + (j - l.length) by omega, this]
        simp [List.getElem_append, hjl]
    · obtain ⟨v', w', hrun, ho, hg⟩ := run_append_arg_grows (P := Tryd.prog) W 23 ty 3 i (.int .i64 0) 1 8 ht hi hz hs hb rfl (by omega) ⟨g, off, none⟩ l.length cap (l.map (fun x => Value.int .i64 x)) (by simp) holds ad l2.length c (l2.map (fun x => Value.int .i64 x)) (by simp) hnews (by omega) hmx (by omega)
      rw [← List.map_append, ← List.length_append] at ho
      exact ⟨v', w', hrun, OutAt.of_own ho, ⟨hg.os, hg.tape, hg.output⟩, hg.size, fun k hk _ => hg.block k hk (by simp)⟩
end
end Go.Proofs.YtcallfgihohldaaDoor.PA
namespace Go.Proofs.YtcallfgihohldaaDoor.PA
section

open Go.RowKit Go.Proofs.YtcallfgihohldaaDoorW.PrintWords Go.Proofs.YtcallfgihohldaaDoorW.PrintLast Go.Proofs.YtcallfgihohldaaDoorW.PrintMore
attribute [local go_sem] max2_int min2_int max_two min_two max_three min_three max_four min_four
set_option linter.unusedVariables false
set_option linter.unusedSimpArgs false
set_option maxHeartbeats 1000000 in
theorem script_calls {W : World} {F : Nat → Prop} {g n : Nat} {S : BSt} (h : BAt W F g n S) (hF : ∀ k, F k → k < W.heap.size) (A : Option Addr) (c : Nat) (l2 : List Int) (hr : (Kd.int .i64).C W A l2.length l2) (hn : S.outs.length + l2.length ≤ 10000000) :
    Calls Tryd.prog 11 #[.pointer (some ⟨g, 0, none⟩), .slice A l2.length c] W fun e W' => e = .returned (.tuple #[]) ∧ ∃ F', BAt W' F' g n (S.script l2) ∧ Went F F' W W' := by
  obtain ⟨bm, vo, hb, hFg, hM, hO⟩ := h
  have c3 : W.cell? ⟨g, 3, none⟩ = some vo := blk_cell hb 3
  obtain ⟨v', W1, hrun, hO1, hst, hsz, hbl⟩ := out_append hO A c l2 hr hn 23
  have hb1 : W1.heap[g]? = some (.cells #[.map (some bm), .int .i64 S.ver, .string S.root, vo, .int .i64 S.calls] 55 (0, 0)) := (hbl g (blk_lt hb) (fun _ cs e => by
    rw [hb] at e
    injection e with e; injection e with _ h6
    cases h6)).trans hb
  have hM1 : MapAt W1 (fun k => F k ∨ (W.heap.size ≤ k ∧ k < W1.heap.size)) bm n S.m := hM.move (fun k cs hk e => hbl k (blk_lt e) (fun _ cs' e' => by
    rw [e] at e'
    injection e' with e'; injection e' with _ h6
    cases h6)) (fun k es cl hk e => hbl k (blk_lt e) (fun _ cs' e' => by
    rw [e] at e'
    cases e')) (fun k hk _ => .inl hk)
  have f3 : W1.frozen? ⟨g, 3, none⟩ = false := blk_frozen hb1 3
  have q3 : W1.cell? ⟨g, 3, none⟩ = some vo := blk_cell hb1 3
  obtain ⟨A0, c0, rfl, _⟩ := hO.form
  obtain ⟨A1, n1, c1, rfl⟩ : ∃ A1 n1 c1, v' = .slice A1 n1 c1 := by
    obtain ⟨A1, c1, e, _⟩ := hO1.form
    exact ⟨A1, _, c1, e⟩
  have X1 := Aside0.mk hst
  have X2 := Aside0.mk hsz
  have X3 := Aside0.mk hbl
  have X4 := Aside0.mk hb1
  have X5 := Aside0.mk hM1
  have X6 := Aside0.mk hO1
  have X7 := Aside0.mk hFg
  have X8 := Aside0.mk hrun
  have X9 := Aside0.mk hb
  have X10 := Aside0.mk hF
  clear hb hFg hM hO hr hn hrun hO1 hst hsz hbl hb1 hM1 hF
  go_enter Tryd.func11, Tryd.ntmps11
  go_wp2_with (first | (at_builtin; refine wpList_append_ran rfl (.tmp 10) (.tmp 11) 23 rfl _ _ _ rfl rfl X8.out ?_) | fail)
  go_end0
  have g1 := grown_one W1 g 3 (.slice A1 n1 c1)
  have hk : ∀ k, k < W1.heap.size → k ≠ g → (W1.setCell ⟨g, 3, none⟩ (.slice A1 n1 c1)).heap[k]? = W1.heap[k]? := fun k hl hn => g1.block k hl (fun e => hn (Option.some.inj e))
  have hs2 := g1.size
  refine ⟨rfl, (fun k => F k ∨ (W.heap.size ≤ k ∧ k < W1.heap.size)), ⟨bm, _, heap_setCell_same W1 g 3 _ 55 (.slice A1 n1 c1) X4.out, .inl X7.out, X5.out.keep X4.out (by decide) hk, X6.out.keep X4.out (by decide) hk⟩, ⟨⟨g1.os.trans X1.out.1, g1.tape.trans X1.out.2.1, g1.output.trans X1.out.2.2, Nat.le_trans X2.out g1.size, fun k hkl hkF => ?_⟩, fun k hk => ?_⟩⟩
  · exact (hk k (Nat.lt_of_lt_of_le hkl X2.out) (fun e => hkF (by rw [e]; exact X7.out))).trans (X3.out k hkl (fun h => absurd h hkF))
  · rcases hk with h | h
    · exact .inl h
    · exact .inr ⟨h.1, Nat.lt_of_lt_of_le h.2 hs2⟩
end
end Go.Proofs.YtcallfgihohldaaDoor.PA
namespace Go.Proofs
section

open Go.Shelf
def Tryd.lays160_ren : Go.Shelf.Ren := ⟨fun | 160 => 27 | 232 => 38 | 231 => 37 | 227 => 39 | 234 => 41 | 233 => 40 | 236 => 43 | 235 => 42 | 228 => 50 | 271 => 53 | 151 => 52 | 197 => 51 | 120 => 59 | 152 => 58 | 260 => 57 | 137 => 71 | 119 => 72 | 224 => 73 | 225 => 74 | 217 => 81 | 266 => 83 | n => n, fun | 9 => 9 | 4 => 4 | 3 => 3 | 5 => 5 | 117 => 73 | 116 => 72 | 0 => 0 | 124 => 76 | 21 => 21 | 105 => 82 | 46 => 88 | 119 => 102 | 139 => 105 | 138 => 104 | n => n, fun | 3 => 0 | 4 => 1 | n => n⟩
theorem Tryd.lays160 : Go.Proofs.Lays.n160 Tryd.prog Tryd.lays160_ren := {
  mixed := by kernel_rfl
  f119 := Tryd.func72.trans (congrArg some (by kernel_rfl))
  f120 := Tryd.func59.trans (congrArg some (by kernel_rfl))
  f137 := Tryd.func71.trans (congrArg some (by kernel_rfl))
  f151 := Tryd.func52.trans (congrArg some (by kernel_rfl))
  f152 := Tryd.func58.trans (congrArg some (by kernel_rfl))
  f160 := Tryd.func27.trans (congrArg some (by kernel_rfl))
  f197 := Tryd.func51.trans (congrArg some (by kernel_rfl))
  f217 := Tryd.func81.trans (congrArg some (by kernel_rfl))
  f224 := Tryd.func73.trans (congrArg some (by kernel_rfl))
  f225 := Tryd.func74.trans (congrArg some (by kernel_rfl))
  f227 := Tryd.func39.trans (congrArg some (by kernel_rfl))
  f228 := Tryd.func50.trans (congrArg some (by kernel_rfl))
  f231 := Tryd.func37.trans (congrArg some (by kernel_rfl))
  f232 := Tryd.func38.trans (congrArg some (by kernel_rfl))
  f233 := Tryd.func40.trans (congrArg some (by kernel_rfl))
  f234 := Tryd.func41.trans (congrArg some (by kernel_rfl))
  f235 := Tryd.func42.trans (congrArg some (by kernel_rfl))
  f236 := Tryd.func43.trans (congrArg some (by kernel_rfl))
  f260 := Tryd.func57.trans (congrArg some (by kernel_rfl))
  f266 := Tryd.func83.trans (congrArg some (by kernel_rfl))
  f271 := Tryd.func53.trans (congrArg some (by kernel_rfl))
  t0 := Tryd.underlying0
  a0 := Tryd.isAgg0
  z0 := Tryd.sizeOf0
  v0 := Tryd.zeroValue0
  t3 := Tryd.underlying3
  a3 := Tryd.isAgg3
  z3 := Tryd.sizeOf3
  v3 := Tryd.zeroValue3
  t4 := Tryd.underlying4
  a4 := Tryd.isAgg4
  z4 := Tryd.sizeOf4
  v4 := Tryd.zeroValue4
  t5 := Tryd.underlying5
  a5 := Tryd.isAgg5
  z5 := Tryd.sizeOf5
  v5 := Tryd.zeroValue5
  t9 := Tryd.underlying9
  a9 := Tryd.isAgg9
  z9 := Tryd.sizeOf9
  v9 := Tryd.zeroValue9
  t21 := Tryd.underlying21
  a21 := Tryd.isAgg21
  z21 := Tryd.sizeOf21
  v21 := Tryd.zeroValue21
  t46 := Tryd.underlying88
  a46 := Tryd.isAgg88
  z46 := Tryd.sizeOf88
  v46 := Tryd.zeroValue88
  t105 := Tryd.underlying82
  a105 := Tryd.isAgg82
  z105 := Tryd.sizeOf82
  v105 := Tryd.zeroValue82
  t116 := Tryd.underlying72
  a116 := Tryd.isAgg72
  z116 := Tryd.sizeOf72
  t117 := Tryd.underlying73
  a117 := Tryd.isAgg73
  z117 := Tryd.sizeOf73
  v117 := Tryd.zeroValue73
  t119 := Tryd.underlying102
  a119 := Tryd.isAgg102
  z119 := Tryd.sizeOf102
  t124 := Tryd.underlying76
  a124 := Tryd.isAgg76
  z124 := Tryd.sizeOf76
  v124 := Tryd.zeroValue76
  t138 := Tryd.underlying104
  a138 := Tryd.isAgg104
  z138 := Tryd.sizeOf104
  v138 := Tryd.zeroValue104
  t139 := Tryd.underlying105
  a139 := Tryd.isAgg105
  z139 := Tryd.sizeOf105
  v139 := Tryd.zeroValue105
  g3 := by kernel_rfl
  g4 := by kernel_rfl }
end
end Go.Proofs
namespace Go.Proofs.YtcallfgihohldaaDoor.PA
section

open Go.RowKit Go.Proofs.YtcallfgihohldaaDoorW.PrintWords Go.Proofs.YtcallfgihohldaaDoorW.PrintLast Go.Proofs.YtcallfgihohldaaDoorW.PrintMore
attribute [local go_sem] max2_int min2_int max_two min_two max_three min_three max_four min_four
set_option linter.unusedVariables false
set_option linter.unusedSimpArgs false
theorem dropWhile_nil {α : Type} (p : α → Bool) : ∀ l : List α, l.dropWhile p = [] ↔ ∀ x ∈ l, p x = true
  | [] => by simp
  | a :: l => by
    rw [List.dropWhile_cons]
    cases h : p a
    · simp [h]
    · simp [h, dropWhile_nil p l]
theorem trimS_nil (l cs : List UInt8) : Lib.trimS l cs = [] ↔ ∀ x ∈ l, cs.contains x = true := by
  unfold Lib.trimS Lib.trimLeftS Lib.trimRightS
  rw [dropWhile_nil]
  constructor
  · intro h x hx
    have h1 : x ∈ l.reverse.takeWhile (cs.contains ·) ++ l.reverse.dropWhile (cs.contains ·) := by
      rw [List.takeWhile_append_dropWhile]
      exact List.mem_reverse.2 hx
    rcases List.mem_append.1 h1 with h2 | h2
    · exact List.all_eq_true.1 (List.all_takeWhile (p := (cs.contains ·)) (l := l.reverse)) x h2
    · exact h x (List.mem_reverse.2 h2)
  · intro h x hx
    have h1 := List.mem_reverse.1 hx
    exact h x (List.mem_reverse.1 ((List.dropWhile_suffix (cs.contains ·)).subset h1))
def nameCut : ByteArray := ⟨#[97, 98, 99, 100, 101, 102, 103, 104, 105, 106, 107, 108, 109, 110, 111, 112, 113, 114, 115, 116, 117, 118, 119, 120, 121, 122, 48, 49, 50, 51, 52, 53, 54, 55, 56, 57, 45]⟩
theorem okC_cut (c : UInt8) : nameCut.data.toList.contains c = okC c := by
  have h : (List.range 256).all (fun n => nameCut.data.toList.contains (UInt8.ofNat n) == okC (UInt8.ofNat n)) = true := by kernel_rfl
  have := List.all_eq_true.1 h c.toNat (List.mem_range.2 c.toNat_lt)
  rwa [UInt8.ofNat_toNat, beq_iff_eq] at this
theorem name_val {s : ByteArray} (h0 : s.size ≠ 0) (h1 : s.size ≤ 40) : (Lib.trimS s.data.toList nameCut.data.toList = []) ↔ nameB s = true := by
  rw [trimS_nil]
  unfold nameB
  have hne : (s.toList == []) = false := by
    rw [Lib.toList_data]
    cases h : s.data.toList with
    | nil => have := Lib.size_eq s; rw [h, List.length_nil] at this; omega
    | cons _ _ => rfl
  rw [hne, decide_eq_true h1, Lib.toList_data]
  simp only [Bool.not_false, Bool.true_and, List.all_eq_true, okC_cut]
set_option maxHeartbeats 1000000 in
theorem name_calls (s : ByteArray) (W : World) : Calls Tryd.prog 15 #[.string s] W fun e W' => e = .returned (.bool (nameB s)) ∧ Below W.heap.size W W' := by
  have hcon : s.size ≤ 9223372036854775807 → Calls Tryd.prog 27 #[.string s, .string ⟨#[97, 98, 99, 100, 101, 102, 103, 104, 105, 106, 107, 108, 109, 110, 111, 112, 113, 114, 115, 116, 117, 118, 119, 120, 121, 122, 48, 49, 50, 51, 52, 53, 54, 55, 56, 57, 45]⟩] W fun e w' => e = .returned (.string ⟨(Lib.trimS s.data.toList nameCut.data.toList).toArray⟩) ∧ Below W.heap.size W w' := fun h => Any.strings_Trim_laid Tryd.lays160 (by kernel_rfl) s nameCut W h (by decide) (ascii_of_all (by decide))
  have H := Aside0.mk hcon
  clear hcon
  by_cases h0 : s.size = 0
  · have hs : s = ⟨#[]⟩ := by
      obtain ⟨⟨l⟩⟩ := s
      have : l = [] := List.eq_nil_of_length_eq_zero h0
      rw [this]
    subst hs
    go_enter Tryd.func15, Tryd.ntmps15
    go_wp2_with fail
    go_ret
    refine ⟨?_, Below.refl _ _⟩
    unfold nameB
    rw [Lib.toList_data]
    rfl
  · have hemp : s.toList.isEmpty = false := by
      rw [Lib.toList_data]
      cases h : s.data.toList with
      | nil => have := Lib.size_eq s; rw [h, List.length_nil] at this; omega
      | cons _ _ => rfl
    by_cases h1 : s.size ≤ 40
    · have d1 : decide ((s.size : Int) ≤ 40) = true := decide_eq_true (by omega)
      obtain ⟨t, ht⟩ : ∃ t : ByteArray, t = ⟨(Lib.trimS s.data.toList nameCut.data.toList).toArray⟩ := ⟨_, rfl⟩
      rw [← ht] at H
      have hE : t.toList.isEmpty = nameB s := by
        rw [Bool.eq_iff_iff, ← name_val h0 h1, Lib.toList_data, ht]
        simp
      have H0 := Aside0.mk h0
      have H1 := Aside0.mk h1
      clear h0 h1 ht
      go_enter Tryd.func15, Tryd.ntmps15
      go_wp2_with fail
      refine (H.out (by have := H1.out; omega)).mono ?_
      rintro e w' ⟨rfl, hw⟩
      go_wp2_with fail
      go_ret
      exact ⟨rfl, hw⟩
    · have d1 : decide ((s.size : Int) ≤ 40) = false := decide_eq_false (by omega)
      go_enter Tryd.func15, Tryd.ntmps15
      go_wp2_with fail
      go_ret
      refine ⟨?_, Below.refl _ _⟩
      unfold nameB
      rw [decide_eq_false h1, Bool.and_false, Bool.false_and]
      rfl
def namedI (s : ByteArray) : Int := if nameB s then 0 else 6
set_option maxHeartbeats 1000000 in
theorem named_calls (a : Addr) (s : ByteArray) (W : World) : Calls Tryd.prog 23 #[.pointer (some a), .string s] W fun e W' => e = .returned (.int .i64 (namedI s)) ∧ Below W.heap.size W W' := by
  have H := Aside0.mk (name_calls s W)
  unfold namedI
  cases hB : nameB s <;> rw [hB] at H
  all_goals
    go_enter Tryd.func23, Tryd.ntmps23
    go_wp2_with (first | (go_at_call 15; refine H.out.mono ?_; rintro e w' ⟨rfl, hw⟩) | fail)
    go_ret
    exact ⟨rfl, hw⟩
/-- A new row, made for this. -/
def FreshRow (W W' : World) (e : Nat) (v : Value) (xs : List Value) : Prop :=
  ∃ q c cs, v = .slice (some ⟨q, 0, none⟩) xs.length c ∧ xs.length ≤ c ∧ W.heap.size ≤ q ∧ W'.heap[q]? = some (.cells cs e (0, 0)) ∧ ∀ (i : Nat) (u : Value), xs[i]? = some u → cs[i]? = some u
theorem below_of_grown {a b : World} (h : a.grownBy b none) : Below a.heap.size a b := ⟨h.os, h.tape, h.output, h.size, fun k hk => h.block k hk (by simp)⟩
/-- 'append([]T{}, l...)' behind the literal: elements of one cell. -/
theorem copy_run (t e : TypeId) (z : Value) (bytes : Nat) (ht : Tryd.prog.underlying t = some (.slice e)) (hinfo : (Tryd.prog.info? e).map (fun i => (i.zero, i.size, i.bytes)) = some (some z, 1, bytes)) (hz : z.cells.size = 1) (ty : TypeId) (W : World) (A : Option Addr) (c : Nat) (xs : List Value)
    (hx : 0 < xs.length → ∃ ad, A = some ad ∧ ∀ j u, xs[j]? = some u → W.cell? (ad.add j) = some u) (hn : xs.length ≤ maxLen) (hb : xs.length * bytes ≤ 140737488355328) :
    ∃ v' W', (Builtin.append_ #[t, t] ty #[.slice (some ⟨W.heap.size, 0, none⟩) 0 0, .slice A xs.length c]).run Tryd.prog (W.alloc (.cells #[] e)) = .ok v' W' ∧ FreshRow W W' e v' xs ∧ Below W.heap.size W W' := by
  obtain ⟨i, hi, hzz⟩ := Option.map_eq_some_iff.1 hinfo
  simp only [Prod.mk.injEq] at hzz
  obtain ⟨hz0, hs, hby⟩ := hzz
  have hbel : Below W.heap.size W (W.alloc (.cells #[] e)) := below_alloc (Below.refl _ _) _
  rcases Nat.eq_zero_or_pos xs.length with h0 | h0
  · have e2 : xs = [] := List.eq_nil_of_length_eq_zero h0
    subst e2
    refine ⟨.slice (some ⟨W.heap.size, 0, none⟩) 0 0, W.alloc (.cells #[] e), ?_, ⟨W.heap.size, 0, #[], rfl, Nat.le_refl _, Nat.le_refl _, heap_alloc_new W _, fun i u hu => by simp at hu⟩, hbel⟩
    cases A <;> simp [Builtin.append_, run_underlying ht, sizeOf, typeInfo, hi, Builtin.lenOf, Builtin.firstCells, loadCells, loadCellsFrom, storeCells, Result.andThen]
  · obtain ⟨ad, rfl, hc⟩ := hx h0
    obtain ⟨v', w', hrun, ho, hg⟩ := run_append_arg_grows (P := Tryd.prog) (W.alloc (.cells #[] e)) t ty e i z 1 bytes ht hi hz0 hs hby hz (by omega) ⟨W.heap.size, 0, none⟩ 0 0 [] rfl (by simp) ad xs.length c xs (by simp) (fun j u hu => below_cell hbel (hc j u hu)) (by omega) (by simpa using hn) (by simpa using hb)
    have hsz : (W.alloc (.cells #[] e)).heap.size = W.heap.size + 1 := by simp
    refine ⟨v', w', hrun, ?_, hbel.trans ((below_of_grown hg).mono hbel.size)⟩
    rw [Nat.zero_add, List.nil_append] at ho
    rcases ho.2 with ⟨rfl, h1⟩ | ⟨q, cap, cur, rfl, hbg, hgb, hnc, hcm, hcs, htake⟩
    · omega
    · refine ⟨q, cap, cur, rfl, hnc, by omega, hgb, fun j u hu => ?_⟩
      rw [← htake, List.getElem?_take] at hu
      split at hu
      · rw [← Array.getElem?_toList]; exact hu
      · cases hu
theorem info5' : (Tryd.prog.info? 5).map (fun i => (i.zero, i.size, i.bytes)) = some (some (.int .u8 0), 1, 1) := by kernel_rfl
theorem info9' : (Tryd.prog.info? 9).map (fun i => (i.zero, i.size, i.bytes)) = some (some (.string ⟨#[]⟩), 1, 16) := by kernel_rfl
theorem C_u8 {W : World} {A : Option Addr} {n : Nat} {l : List Int} (hr : (Kd.int .u8).C W A n l) : 0 < l.length → ∃ ad, A = some ad ∧ ∀ j u, (l.map (fun x => Value.int .u8 x))[j]? = some u → W.cell? (ad.add j) = some u := by
  intro h0
  obtain ⟨ad', e, h⟩ := hr.2.2 (by have := hr.1; omega)
  refine ⟨ad', e, fun j u hu => ?_⟩
  rw [List.getElem?_map, Option.map_eq_some_iff] at hu
  obtain ⟨x, hx, rfl⟩ := hu
  obtain ⟨cs, h1, h2, h3⟩ := h j x hx
  have h2' : cs = [.int .u8 x] := h2
  have := h3 0 (.int .u8 x) (by rw [h2']; rfl)
  rw [show j * (Kd.int .u8).sz + 0 = j from Nat.mul_one j] at this
  exact this
theorem BytesAt.of_fresh {W W' : World} {v : Value} {b : List Int} (h : FreshRow W W' 5 v (b.map (fun x => Value.int .u8 x))) (hl : b.length ≤ 60000) : BytesAt W' (fun k => W.heap.size ≤ k ∧ k < W'.heap.size) v b := by
  obtain ⟨q, c, cs, rfl, h1, h2, h3, h4⟩ := h
  rw [List.length_map] at *
  exact .inr ⟨q, c, cs, rfl, ⟨h1, hl⟩, ⟨h2, blk_lt h3⟩, h3, fun i hi => h4 i _ (by rw [List.getElem?_map, List.getElem?_eq_getElem hi]; rfl)⟩
set_option maxHeartbeats 1000000 in
set_option maxRecDepth 100000 in
/-- Clone of a row of bytes that may be nil. -/
theorem clone_calls (W : World) (A : Option Addr) (c : Nat) (b : List Int) (hr : (Kd.int .u8).C W A b.length b) (hl : b.length ≤ 60000) :
    Calls Tryd.prog 25 #[.slice A b.length c] W fun e W' => ∃ v, e = .returned v ∧ BytesAt W' (fun k => W.heap.size ≤ k ∧ k < W'.heap.size) v b ∧ Below W.heap.size W W' := by
  cases A with
  | none =>
    have hb : b = [] := by
      rcases Nat.eq_zero_or_pos b.length with h0 | h0
      · exact List.eq_nil_of_length_eq_zero h0
      · obtain ⟨ad, h, _⟩ := hr.2.2 h0
        cases h
    subst hb
    clear hr hl
    have heq := Lib.run_eql_slice_nil (P := Tryd.prog) W 30 5 none 0 c 0 0 Tryd.underlying30
    go_enter Tryd.func25, Tryd.ntmps25
    go_wp2_with fail
    go_ret
    exact ⟨_, rfl, .inl ⟨none, rfl, rfl⟩, Below.refl _ _⟩
  | some ad =>
    obtain ⟨v', W', hrun, hf, hB⟩ := copy_run 30 5 (.int .u8 0) 1 (by kernel_rfl) info5' rfl 30 W (some ad) c (b.map (fun x => Value.int .u8 x)) (by rw [List.length_map]; exact C_u8 hr) (by rw [List.length_map]; simp only [maxLen]; omega) (by rw [List.length_map]; omega)
    rw [List.length_map] at hrun
    have H1 := Aside0.mk hrun
    have H2 := Aside0.mk hf
    have H3 := Aside0.mk hB
    have H4 := Aside0.mk hl
    clear hrun hf hB hl hr
    have heq := Lib.run_eql_slice_nil (P := Tryd.prog) W 30 5 (some ad) b.length c 0 0 Tryd.underlying30
    go_enter Tryd.func25, Tryd.ntmps25
    go_wp2_with (first | (at_builtin; refine wpList_append_ran rfl (.tmp 5) (.tmp 6) 30 rfl _ _ _ rfl rfl H1.out ?_) | fail)
    go_ret
    exact ⟨_, rfl, BytesAt.of_fresh H2.out H4.out, H3.out⟩
end
end Go.Proofs.YtcallfgihohldaaDoor.PA
namespace Go.Proofs.YtcallfgihohldaaDoor.PA
section

open Go.RowKit Go.Proofs.YtcallfgihohldaaDoorW.PrintWords Go.Proofs.YtcallfgihohldaaDoorW.PrintLast Go.Proofs.YtcallfgihohldaaDoorW.PrintMore
attribute [local go_sem] max2_int min2_int max_two min_two max_three min_three max_four min_four
set_option linter.unusedVariables false
set_option linter.unusedSimpArgs false
theorem law9 : Go.Maps.Keyed Tryd.prog 9 := Go.Maps.string_keyed Tryd.underlying9
theorem litS_inj {a b : ByteArray} (h : litS a = litS b) : a = b := by
  injection h with h
  obtain ⟨⟨a⟩⟩ := a
  obtain ⟨⟨b⟩⟩ := b
  simp only at h
  rw [h]
theorem litS_ne {a b : ByteArray} (h : a ≠ b) : litS a ≠ litS b := fun e => h (litS_inj e)
theorem litS_key (a : ByteArray) : WideAt.IsKeyLit (litS a) := trivial
theorem key9 {s : ByteArray} (h : s.size ≤ maxLen) : keyOf Tryd.prog 9 (.string s) = some (litS s) := Go.WideMaps.keyOf_string_mk Tryd.underlying9 h
def MapK (W : World) (F : Nat → Prop) (D : DataW Value) (m : ByteArray → Option (List Int)) : Prop :=
  ∀ k : ByteArray, k.size ≤ maxLen → (Maps.has D (litS k) = (m k).isSome) ∧ ∀ b, m k = some b → ∃ v, (∀ z, D.atKey (litS k) z = .held v) ∧ BytesAt W F v b
theorem MapK.put {W W' : World} {F F' : Nat → Prop} {m : ByteArray → Option (List Int)} {D : DataW Value} (hk : MapK W F D m) (hD : Go.Maps.IsMap D) (nm : ByteArray) (v : Value) (b : List Int) (hmove : ∀ v b, BytesAt W F v b → BytesAt W' F' v b) (hv : BytesAt W' F' v b) :
    MapK W' F' (D.put (litS nm) (.held v)) (fun k => if k = nm then some b else m k) := by
  intro k hkl
  by_cases e : k = nm
  · subst e
    refine ⟨by rw [Go.Maps.has_put_same hD (litS_key _)]; simp, fun b' hb' => ?_⟩
    simp only [if_true, Option.some.injEq] at hb'
    subst hb'
    exact ⟨v, fun z => Go.Maps.atKey_put_same hD (litS_key _) _ _, hv⟩
  · refine ⟨by rw [Go.Maps.has_put_other (litS_ne e)]; simp only [if_neg e]; exact (hk k hkl).1, fun b' hb' => ?_⟩
    simp only [if_neg e] at hb'
    obtain ⟨v', h1, h2⟩ := (hk k hkl).2 b' hb'
    exact ⟨v', fun z => by rw [Go.Maps.atKey_put_other (litS_ne e)]; exact h1 z, hmove _ _ h2⟩
theorem MapK.del {W W' : World} {F F' : Nat → Prop} {m : ByteArray → Option (List Int)} {D : DataW Value} (hk : MapK W F D m) (nm : ByteArray) (hmove : ∀ v b, BytesAt W F v b → BytesAt W' F' v b) :
    MapK W' F' (D.del (litS nm)) (fun k => if k = nm then none else m k) := by
  intro k hkl
  by_cases e : k = nm
  · subst e
    refine ⟨by rw [Go.Maps.has_del_same]; simp, fun b' hb' => ?_⟩
    simp at hb'
  · refine ⟨by rw [Go.Maps.has_del_other (litS_ne e)]; simp only [if_neg e]; exact (hk k hkl).1, fun b' hb' => ?_⟩
    simp only [if_neg e] at hb'
    obtain ⟨v', h1, h2⟩ := (hk k hkl).2 b' hb'
    exact ⟨v', fun z => by rw [Go.Maps.atKey_del_other (litS_ne e)]; exact h1 z, hmove _ _ h2⟩
theorem nameB_size {s : ByteArray} (h : nameB s = true) : s.size ≤ 40 := by
  unfold nameB at h
  simp only [Bool.and_eq_true, decide_eq_true_eq] at h
  exact h.1.2
set_option maxHeartbeats 1000000 in
theorem told_calls (o : Int) (W : World) : Calls Tryd.prog 26 #[.int .i64 o] W fun e W' => e = .returned (.int .i64 (toldI o)) ∧ W' = W := by
  by_cases h : o = 0
  · subst h
    go_enter Tryd.func26, Tryd.ntmps26
    go_wp2_with fail
    go_ret
    exact ⟨rfl, rfl⟩
  · have e : toldI o = 15 := if_pos h
    have hb : (o != 0) = true := bne_iff_ne.2 h
    rw [e]
    clear e h
    go_enter Tryd.func26, Tryd.ntmps26
    go_wp2_with fail
    go_ret
    exact ⟨rfl, rfl⟩
theorem cell_blk_lt {W : World} {p : Addr} {u : Value} (h : W.cell? p = some u) : p.block < W.heap.size := by
  rcases Nat.lt_or_ge p.block W.heap.size with h' | h'
  · exact h'
  · exfalso
    unfold World.cell? at h
    rw [Array.getElem?_eq_none h'] at h
    simp at h
theorem cell_of_blk {W W' : World} {p : Addr} (h : W'.heap[p.block]? = W.heap[p.block]?) : W'.cell? p = W.cell? p := by
  unfold World.cell?
  rw [h]
theorem add_block (ad : Addr) (j : Nat) : (ad.add j).block = ad.block := by
  unfold Addr.add
  split <;> rfl
/-- A row of the caller's stays while the store's own turns. -/
theorem C_chg {k : IntKind} {W W' : World} {F : Nat → Prop} {A : Option Addr} {n : Nat} {l : List Int} (hc : Chg F W W') (hA : ∀ ad, A = some ad → ¬ F ad.block) (h : (Kd.int k).C W A n l) : (Kd.int k).C W' A n l :=
  ⟨h.1, h.2.1, fun h0 => by
    obtain ⟨ad, e, hh⟩ := h.2.2 h0
    refine ⟨ad, e, fun j p hj => ?_⟩
    obtain ⟨cs, h1, h2, h3⟩ := hh j p hj
    refine ⟨cs, h1, h2, fun q u hu => ?_⟩
    have h4 := h3 q u hu
    have h5 := cell_blk_lt h4
    exact (cell_of_blk (hc.block _ h5 (by rw [add_block]; exact hA ad e))).trans h4⟩
theorem put_end {w2 w3 w4 : World} {F : Nat → Prop} {g n bm : Nat} {S1 : BSt} {nm : ByteArray} {b : List Int} {vo v : Value} {D : DataW Value} (hb : w2.heap[g]? = some (.cells #[.map (some bm), .int .i64 S1.ver, .string S1.root, vo, .int .i64 S1.calls] 55 (0, 0)))
    (hown : w2.ownsMap Tryd.prog 9 tokR bm n D) (hk : MapK w2 F D S1.m) (hO : OutAt w2 F vo S1.outs) (hbF : F bm) (hgF : F g) (hB3 : Below w2.heap.size w2 w3) (hv : BytesAt w3 (fun k => w2.heap.size ≤ k ∧ k < w3.heap.size) v b)
    (hown4 : w4.ownsMap Tryd.prog 9 tokR bm (n + 1) (D.put (litS nm) (.held v))) (ht : w3.mapTurned w4 bm) : ∃ F', BAt w4 F' g (n + 1) (S1.set nm (some b)) ∧ Went F F' w2 w4 := by
  have hg := ht.grown
  have hIM := hown.isMap
  obtain ⟨es, clock, hbm, _⟩ := hown
  have hlt := blk_lt hbm
  have h23 : ∀ k, k < w2.heap.size → k ≠ bm → w4.heap[k]? = w2.heap[k]? := fun k hk hne => (hg.block k (Nat.lt_of_lt_of_le hk hB3.size) (fun e => hne (Option.some.inj e))).trans (hB3.block k hk)
  have hne : ∀ (k : Nat) (cs : Array Value) (t : TypeId), w2.heap[k]? = some (.cells cs t (0, 0)) → k ≠ bm := fun k cs t h e => by
    subst e
    rw [hbm] at h
    cases h
  have hcell : ∀ (k : Nat) (cs : Array Value) (t : TypeId), w2.heap[k]? = some (.cells cs t (0, 0)) → w4.heap[k]? = w2.heap[k]? := fun k cs t h => h23 k (blk_lt h) (hne k cs t h)
  refine ⟨fun k => F k ∨ (w2.heap.size ≤ k ∧ k < w4.heap.size), ⟨bm, vo, (hcell _ _ _ hb).trans hb, .inl hgF, ⟨_, hown4, .inl hbF, ?_⟩, hO.move (fun k cs _ h => hcell k cs 3 h) (fun k h _ => .inl h)⟩, ⟨⟨hg.os.trans hB3.os, hg.tape.trans hB3.tape, hg.output.trans hB3.output, Nat.le_trans hB3.size hg.size, fun k hk hF => h23 k hk (fun e => hF (e ▸ hbF))⟩, fun k hk => hk⟩⟩
  refine hk.put hIM nm v b (fun v b h => h.move (fun k cs _ h => hcell k cs 5 h) (fun k h _ => .inl h)) (hv.move (fun k cs h1 h => hg.block k (blk_lt h) (fun e => ?_)) (fun k h _ => .inr ⟨h.1, Nat.lt_of_lt_of_le h.2 hg.size⟩))
  have := Option.some.inj e
  omega
end
end Go.Proofs.YtcallfgihohldaaDoor.PA
namespace Go.Proofs.YtcallfgihohldaaDoor.PA
section

open Go.RowKit Go.Proofs.YtcallfgihohldaaDoorW.PrintWords Go.Proofs.YtcallfgihohldaaDoorW.PrintLast Go.Proofs.YtcallfgihohldaaDoorW.PrintMore
attribute [local go_sem] max2_int min2_int max_two min_two max_three min_three max_four min_four
set_option linter.unusedVariables false
set_option linter.unusedSimpArgs false
theorem BAt.mono {W : World} {F : Nat → Prop} {g n n' : Nat} {S : BSt} (h : BAt W F g n S) (hn : n ≤ n') : BAt W F g n' S := by
  obtain ⟨bm, vo, hb, hF, ⟨D, h1, h2, h3⟩, hO⟩ := h
  exact ⟨bm, vo, hb, hF, ⟨D, h1.mono hn, h2, h3⟩, hO⟩
theorem grown_of_below {a b : World} (h : Below a.heap.size a b) : a.grownBy b none := ⟨h.os, h.tape, h.output, h.size, fun k hk _ => h.block k hk⟩
set_option maxHeartbeats 2000000 in
set_option maxRecDepth 100000 in
theorem put_calls {W : World} {F : Nat → Prop} {g n : Nat} {S : BSt} (h : BAt W F g n S) (hF : ∀ k, F k → k < W.heap.size) (hn : n < 1000000) (nm : ByteArray) (A : Option Addr) (c : Nat) (b : List Int) (hA : ∀ ad, A = some ad → ¬ F ad.block) (hr : (Kd.int .u8).C W A b.length b) :
    Calls Tryd.prog 12 #[.pointer (some ⟨g, 0, none⟩), .string nm, .slice A b.length c] W fun e W' => e = .returned (.int .i64 (S.put nm b).2) ∧ ∃ F', BAt W' F' g (n + 1) (S.put nm b).1 ∧ Went F F' W W' := by
  have Xh := Aside0.mk h
  have XF := Aside0.mk hF
  have Xn := Aside0.mk hn
  have Xr := Aside0.mk hr
  have XA := Aside0.mk hA
  clear h hF hn hr hA
  have hN := named_calls ⟨g, 0, none⟩ nm W
  cases hB : nameB nm
  · have hp : S.put nm b = (S, 6) := by unfold BSt.put; rw [hB]; rfl
    have e0 : namedI nm = 6 := by unfold namedI; rw [hB]; rfl
    rw [e0] at hN
    rw [hp]
    have XN := Aside0.mk hN
    clear hN hB hp e0
    go_enter Tryd.func12, Tryd.ntmps12
    go_wp2_with (first | (go_at_call 23; refine XN.out.mono ?_; rintro e w' ⟨rfl, hw⟩) | fail)
    go_ret
    exact ⟨rfl, F, (Xh.out.mono (Nat.le_succ _)).below hw, Went.of hw⟩
  have e0 : namedI nm = 0 := by unfold namedI; rw [hB]; rfl
  rw [e0] at hN
  have XB := Aside0.mk hB
  have XN := Aside0.mk hN
  clear hN hB e0
  by_cases hl : 60000 < b.length
  · have hp : S.put nm b = (S, 14) := by unfold BSt.put; rw [XB.out, if_pos rfl, if_pos hl]
    rw [hp]
    have d1 : decide ((60000 : Int) < (b.length : Int)) = true := decide_eq_true (by omega)
    clear hp hl
    go_enter Tryd.func12, Tryd.ntmps12
    go_wp2_with (first | (go_at_call 23; refine XN.out.mono ?_; rintro e w' ⟨rfl, hw⟩) | fail)
    go_ret
    exact ⟨rfl, F, (Xh.out.mono (Nat.le_succ _)).below hw, Went.of hw⟩
  have d1 : decide ((60000 : Int) < (b.length : Int)) = false := decide_eq_false (by omega)
  have hp : S.put nm b = (if S.o = 1 then S.next else S.next.set nm (some b), toldI S.o) := by unfold BSt.put; rw [XB.out, if_pos rfl, if_neg hl]
  rw [hp]
  have Xl := Aside0.mk hl
  clear hl hp
  obtain ⟨o, ho⟩ : ∃ o, o = S.o := ⟨_, rfl⟩
  rw [← ho]
  have Xo := Aside0.mk ho
  obtain ⟨ti, hti⟩ : ∃ ti, ti = toldI o := ⟨_, rfl⟩
  rw [← hti]
  have Xti := Aside0.mk hti
  have hT : ∀ w, Calls Tryd.prog 26 #[.int .i64 o] w fun e W' => e = .returned (.int .i64 ti) ∧ W' = w := fun w => by rw [hti]; exact told_calls o w
  have XT := Aside0.mk hT
  clear hti hT
  obtain ⟨S1, hS1⟩ : ∃ S1, S1 = S.next := ⟨_, rfl⟩
  rw [← hS1]
  have hK : ∀ w1, Below W.heap.size W w1 → Calls Tryd.prog 24 #[.pointer (some ⟨g, 0, none⟩)] w1 fun e W' => e = .returned (.int .i64 o) ∧ BAt W' F g n S1 ∧ Went F F W W' := fun w1 hw1 => by
    rw [hS1, ho]
    refine (take_calls (Xh.out.below hw1)).mono ?_
    rintro e w2 ⟨rfl, hb2, hg2⟩
    obtain ⟨bm, vo, hb, hFg, _⟩ := Xh.out
    exact ⟨rfl, hb2, (Went.of hw1).trans ⟨Chg.grown hg2 hFg, fun _ h => .inl h⟩⟩
  have XK := Aside0.mk hK
  clear hK hS1
  by_cases h1 : o = 1
  · rw [if_pos h1]
    have hb1 : (o != 1) = false := by simp [h1]
    clear h1 ho
    go_enter Tryd.func12, Tryd.ntmps12
    go_wp2_with (first | (go_at_call 23; refine XN.out.mono ?_; rintro e w' ⟨rfl, hw⟩; have Xw := Aside0.mk hw; clear hw) | (go_at_call 24; refine (XK.out _ Xw.out).mono ?_; rintro e w2 ⟨rfl, hb2⟩; have Xb2 := Aside0.mk hb2; clear hb2) | (go_at_call 26; refine (XT.out _).mono ?_; rintro e w3 ⟨rfl, rfl⟩) | fail)
    go_ret
    exact ⟨rfl, F, Xb2.out.1.mono (Nat.le_succ _), Xb2.out.2⟩
  · rw [if_neg h1]
    have hb1 : (o != 1) = true := bne_iff_ne.2 h1
    clear h1 ho
    go_enter Tryd.func12, Tryd.ntmps12
    go_wp2_with (first | (go_at_call 23; refine XN.out.mono ?_; rintro e w' ⟨rfl, hw⟩; have Xw := Aside0.mk hw; clear hw) | (go_at_call 24; refine (XK.out _ Xw.out).mono ?_; rintro e w2 ⟨rfl, hb2⟩; have Xb2 := Aside0.mk hb2; clear hb2) | fail)
    obtain ⟨bm, vo, hb, hFg, ⟨D, hown, hbF, hk⟩, hO⟩ := Xb2.out.1
    have c0 : w2.cell? ⟨g, 0, none⟩ = some (.map (some bm)) := blk_cell hb 0
    have Xhb := Aside0.mk hb
    have Xown := Aside0.mk hown
    have Xk := Aside0.mk hk
    have XO := Aside0.mk hO
    have XbF := Aside0.mk hbF
    have XgF := Aside0.mk hFg
    clear hb hown hk hO hbF hFg

    have hcl : ∀ w, w.heap = w2.heap → Below w2.heap.size w2 w → Calls Tryd.prog 25 #[.slice A b.length c] w fun e W' => ∃ v, e = .returned v ∧ BytesAt W' (fun k => w2.heap.size ≤ k ∧ k < W'.heap.size) v b ∧ Below w2.heap.size w2 W' ∧ W'.cell? ⟨g, 0, none⟩ = some (.map (some bm)) ∧
        ∃ W4, (Instr.mapUpdate 53 (.map (some bm)) (.string nm) v).run Tryd.prog W' = .ok () W4 ∧ W4.ownsMap Tryd.prog 9 tokR bm (n + 1) (D.put (litS nm) (.held v)) ∧ W'.mapTurned W4 bm := fun w hh hw => by
      have hCC : (Kd.int .u8).C w A b.length b := Kd.C_below (C_chg Xb2.out.2.chg XA.out Xr.out) hw
      refine (clone_calls w A c b hCC (by have := Xl.out; omega)).mono ?_
      rintro e w3 ⟨v, rfl, hv, hB3⟩
      rw [hh] at hv
      have hB : Below w2.heap.size w2 w3 := hw.trans (hB3.mono hw.size)
      obtain ⟨w4, h1, h2, h3⟩ := (Xown.out.kept (grown_of_below hB) (by simp)).store law9 Tryd.underlying53 (by have := Xn.out; simp only [maxLen]; omega) (key := .string nm) (key9 (by have := nameB_size XB.out; simp only [maxLen]; omega)) (show tokR v = some (.held v, []) from rfl)
      exact ⟨v, rfl, hv, hB, (hB.cell (p := ⟨g, 0, none⟩) (blk_lt Xhb.out)).trans c0, w4, h1, h2, h3⟩
    have Xcl := Aside0.mk hcl
    clear hcl
    go_region_with (first | (go_at_call 25; refine (Xcl.out _ (by rfl) (by first | exact Below.refl _ _ | exact Below.drew (Below.refl _ _))).mono ?_; rintro e w3 ⟨v, rfl, hv, hB3, c03, w4, hrun4, hown4, hturn4⟩; have Xv := Aside0.mk hv; have XB3 := Aside0.mk hB3; have Xown4 := Aside0.mk hown4; have Xt4 := Aside0.mk hturn4; clear hv hB3 hown4 hturn4) | fail)
    all_goals
      obtain ⟨F', hE1, hE2⟩ := put_end Xhb.out Xown.out Xk.out XO.out XbF.out XgF.out XB3.out Xv.out Xown4.out Xt4.out
      have XE1 := Aside0.mk hE1
      have XE2 := Aside0.mk hE2
      clear hE1 hE2
      go_wp2_with (first | (go_at_call 26; refine (XT.out _).mono ?_; rintro e w5 ⟨rfl, rfl⟩) | fail)
      go_ret
      exact ⟨rfl, F', XE1.out, Xb2.out.2.trans XE2.out⟩
end
end Go.Proofs.YtcallfgihohldaaDoor.PA
namespace Go.Proofs.YtcallfgihohldaaDoor.PA
section

open Go.RowKit Go.Proofs.YtcallfgihohldaaDoorW.PrintWords Go.Proofs.YtcallfgihohldaaDoorW.PrintLast Go.Proofs.YtcallfgihohldaaDoorW.PrintMore
attribute [local go_sem] max2_int min2_int max_two min_two max_three min_three max_four min_four
set_option linter.unusedVariables false
set_option linter.unusedSimpArgs false
theorem BytesAt.reads {W : World} {F : Nat → Prop} {v : Value} {b : List Int} (h : BytesAt W F v b) : ∃ A c, v = .slice A b.length c ∧ (Kd.int .u8).C W A b.length b ∧ b.length ≤ 60000 := by
  rcases h with ⟨A, rfl, rfl⟩ | ⟨q, c, cs, h1, h2, h3, h4, h5⟩
  · exact ⟨A, 0, rfl, ⟨rfl, by simp, fun h => absurd h (by simp)⟩, by simp⟩
  · refine ⟨_, c, h1, ⟨rfl, by omega, fun _ => ⟨_, rfl, fun j p hj => ⟨[.int .u8 p], rfl, rfl, fun q u hu => ?_⟩⟩⟩, h2.2⟩
    obtain ⟨hl, rfl⟩ := List.getElem?_eq_some_iff.1 hj
    cases q with
    | zero =>
      simp only [List.getElem?_cons_zero, Option.some.injEq] at hu
      subst hu
      rw [add_plain, blk_cell h4, show j * (Kd.int .u8).sz + 0 = j from Nat.mul_one j]
      exact h5 j hl
    | succ q => simp at hu
theorem clone_at {W : World} {F : Nat → Prop} {v : Value} {b : List Int} (h : BytesAt W F v b) : Calls Tryd.prog 25 #[v] W fun e W' => ∃ v, e = .returned v ∧ BytesAt W' (fun k => W.heap.size ≤ k ∧ k < W'.heap.size) v b ∧ Below W.heap.size W W' := by
  obtain ⟨A, c, rfl, hr, hl⟩ := h.reads
  exact clone_calls W A c b hr hl
theorem BytesAt.none (W : World) (F : Nat → Prop) : BytesAt W F (.slice none 0 0) [] := .inl ⟨Option.none, rfl, rfl⟩
set_option maxHeartbeats 2000000 in
set_option maxRecDepth 100000 in
theorem get_calls {W : World} {F : Nat → Prop} {g n : Nat} {S : BSt} (h : BAt W F g n S) (hF : ∀ k, F k → k < W.heap.size) (nm : ByteArray) :
    Calls Tryd.prog 13 #[.pointer (some ⟨g, 0, none⟩), .string nm] W fun e W' => ∃ v, e = .returned (.tuple #[v, .int .i64 (S.get nm).2.2]) ∧ BytesAt W' (fun k => W.heap.size ≤ k ∧ k < W'.heap.size) v (S.get nm).2.1 ∧ BAt W' F g n (S.get nm).1 ∧ Went F F W W' := by
  have Xh := Aside0.mk h
  have XF := Aside0.mk hF
  clear h hF
  have hN := named_calls ⟨g, 0, none⟩ nm W
  cases hB : nameB nm
  · have hp : S.get nm = (S, [], 6) := by unfold BSt.get; rw [hB]; rfl
    have e0 : namedI nm = 6 := by unfold namedI; rw [hB]; rfl
    rw [e0] at hN
    rw [hp]
    have XN := Aside0.mk hN
    clear hN hB hp e0
    go_enter Tryd.func13, Tryd.ntmps13
    go_wp2_with (first | (go_at_call 23; refine XN.out.mono ?_; rintro e w' ⟨rfl, hw⟩) | fail)
    go_ret2
    exact ⟨_, rfl, BytesAt.none _ _, Xh.out.below hw, Went.of hw⟩
  have e0 : namedI nm = 0 := by unfold namedI; rw [hB]; rfl
  rw [e0] at hN
  have XB := Aside0.mk hB
  have XN := Aside0.mk hN
  clear hN hB e0
  obtain ⟨o, ho⟩ : ∃ o, o = S.o := ⟨_, rfl⟩
  have Xo := Aside0.mk ho
  obtain ⟨S1, hS1⟩ : ∃ S1, S1 = S.next := ⟨_, rfl⟩
  have XS := Aside0.mk hS1
  have hK : ∀ w1, Below W.heap.size W w1 → Calls Tryd.prog 24 #[.pointer (some ⟨g, 0, none⟩)] w1 fun e W' => e = .returned (.int .i64 o) ∧ BAt W' F g n S1 ∧ Went F F W W' := fun w1 hw1 => by
    rw [hS1, ho]
    refine (take_calls (Xh.out.below hw1)).mono ?_
    rintro e w2 ⟨rfl, hb2, hg2⟩
    obtain ⟨bm, vo, hb, hFg, _⟩ := Xh.out
    exact ⟨rfl, hb2, (Went.of hw1).trans ⟨Chg.grown hg2 hFg, fun _ h => .inl h⟩⟩
  have XK := Aside0.mk hK
  clear hK hS1
  by_cases h1 : o = 0
  · have hm : S1.m nm = S.m nm := by rw [XS.out]; rfl
    have h1' : ¬ S.o ≠ 0 := by rw [← ho]; exact fun h => h h1
    have hz := Tryd.zeroValue30
    have hb1 : (o != 0) = false := by simp [h1]
    cases hv : S.m nm with
    | none =>
      have hp : S.get nm = (S1, [], 7) := by unfold BSt.get; rw [XB.out, if_pos rfl, if_neg h1', hv, XS.out]
      rw [hp]
      rw [hv] at hm
      have Xm := Aside0.mk hm
      clear hm hv hp h1 h1' ho
      go_enter Tryd.func13, Tryd.ntmps13
      go_wp2_with (first | (go_at_call 23; refine XN.out.mono ?_; rintro e w' ⟨rfl, hw⟩; have Xw := Aside0.mk hw; clear hw) | (go_at_call 24; refine (XK.out _ Xw.out).mono ?_; rintro e w2 ⟨rfl, hb2, hW2⟩; have XW := Aside0.mk hW2; have Xb2 := Aside0.mk hb2; obtain ⟨bm, vo, hb, hFg, ⟨D, hown, hbF, hk⟩, hO⟩ := hb2; have c0 : w2.cell? ⟨g, 0, none⟩ = some (.map (some bm)) := blk_cell hb 0; have Xhb := Aside0.mk hb; have Xown := Aside0.mk hown; have Xk := Aside0.mk hk; have XO := Aside0.mk hO; have XbF := Aside0.mk hbF; have XgF := Aside0.mk hFg; clear hb hown hk hO hbF hFg hW2; have hhas : Go.Maps.has D (litS nm) = false := by { have := (Xk.out nm (by have := nameB_size XB.out; simp only [maxLen]; omega)).1; rw [Xm.out] at this; exact this }) | (at_lookup; refine wpList_lookup_own_ok _ rfl _ _ 53 rfl 9 30 law9 Tryd.underlying53 tokR (hz _) (.held (.slice none 0 0)) [] rfl bm n D rfl Xown.out _ _ rfl (key9 (by have := nameB_size XB.out; simp only [maxLen]; omega)) ?_; intro v ps hv) | fail)
      go_ret2
      exact ⟨_, rfl, BytesAt.none _ _, Xb2.out, XW.out⟩
    | some b =>
      have hp : S.get nm = (S1, b, 0) := by unfold BSt.get; rw [XB.out, if_pos rfl, if_neg h1', hv, XS.out]
      rw [hp]
      rw [hv] at hm
      have Xm := Aside0.mk hm
      clear hm hv hp h1 h1' ho
      go_enter Tryd.func13, Tryd.ntmps13
      go_wp2_with (first | (go_at_call 23; refine XN.out.mono ?_; rintro e w' ⟨rfl, hw⟩; have Xw := Aside0.mk hw; clear hw) | (go_at_call 24; refine (XK.out _ Xw.out).mono ?_; rintro e w2 ⟨rfl, hb2, hW2⟩; have XW := Aside0.mk hW2; have Xb2 := Aside0.mk hb2; obtain ⟨bm, vo, hb, hFg, ⟨D, hown, hbF, hk⟩, hO⟩ := hb2; have c0 : w2.cell? ⟨g, 0, none⟩ = some (.map (some bm)) := blk_cell hb 0; have Xhb := Aside0.mk hb; have Xown := Aside0.mk hown; have Xk := Aside0.mk hk; have XO := Aside0.mk hO; have XbF := Aside0.mk hbF; have XgF := Aside0.mk hFg; clear hb hown hk hO hbF hFg hW2; have hhas : Go.Maps.has D (litS nm) = true := by { have := (Xk.out nm (by have := nameB_size XB.out; simp only [maxLen]; omega)).1; rw [Xm.out] at this; exact this }; obtain ⟨v0, hat, hv0⟩ := (Xk.out nm (by have := nameB_size XB.out; simp only [maxLen]; omega)).2 b Xm.out; have Xat := Aside0.mk hat; have Xv0 := Aside0.mk hv0; clear hat hv0) | (at_lookup; refine wpList_lookup_own_ok _ rfl _ _ 53 rfl 9 30 law9 Tryd.underlying53 tokR (hz _) (.held (.slice none 0 0)) [] rfl bm n D rfl Xown.out _ _ rfl (key9 (by have := nameB_size XB.out; simp only [maxLen]; omega)) ?_; intro v ps hv; obtain rfl : v = v0 := (by have h2 := (Option.some.inj hv); have h3 := congrArg Prod.fst h2; rw [Xat.out] at h3; injection h3); clear hv) | (go_at_call 25; refine (clone_at Xv0.out).mono ?_; rintro e w3 ⟨v3, rfl, hv3, hB3⟩; have Xv3 := Aside0.mk hv3; have XB3 := Aside0.mk hB3; clear hv3 hB3) | fail)
      go_ret2
      exact ⟨_, rfl, Xv3.out.move (fun _ _ _ _ => rfl) (fun k h _ => ⟨Nat.le_trans XW.out.chg.size h.1, h.2⟩), Xb2.out.below XB3.out, XW.out.trans (Went.of XB3.out)⟩
  · have hp : S.get nm = (S1, [], 15) := by unfold BSt.get; rw [XB.out, if_pos rfl, if_pos (by rw [← ho]; exact h1), XS.out]
    rw [hp]
    have hb1 : (o != 0) = true := bne_iff_ne.2 h1
    clear h1 ho hp
    go_enter Tryd.func13, Tryd.ntmps13
    go_wp2_with (first | (go_at_call 23; refine XN.out.mono ?_; rintro e w' ⟨rfl, hw⟩; have Xw := Aside0.mk hw; clear hw) | (go_at_call 24; refine (XK.out _ Xw.out).mono ?_; rintro e w2 ⟨rfl, hb2, hW2⟩; have XW := Aside0.mk hW2; have Xb2 := Aside0.mk hb2; obtain ⟨bm, vo, hb, hFg, ⟨D, hown, hbF, hk⟩, hO⟩ := hb2; have c0 : w2.cell? ⟨g, 0, none⟩ = some (.map (some bm)) := blk_cell hb 0; have Xhb := Aside0.mk hb; have Xown := Aside0.mk hown; have Xk := Aside0.mk hk; have XO := Aside0.mk hO; have XbF := Aside0.mk hbF; have XgF := Aside0.mk hFg; clear hb hown hk hO hbF hFg hW2) | fail)
    go_ret2
    exact ⟨_, rfl, BytesAt.none _ _, Xb2.out, XW.out⟩
end
end Go.Proofs.YtcallfgihohldaaDoor.PA
namespace Go.Proofs.YtcallfgihohldaaDoor.PA
section

open Go.RowKit Go.Proofs.YtcallfgihohldaaDoorW.PrintWords Go.Proofs.YtcallfgihohldaaDoorW.PrintLast Go.Proofs.YtcallfgihohldaaDoorW.PrintMore
attribute [local go_sem] max2_int min2_int max_two min_two max_three min_three max_four min_four
set_option linter.unusedVariables false
set_option linter.unusedSimpArgs false
theorem del_end {w2 w4 : World} {F : Nat → Prop} {g n bm : Nat} {S1 : BSt} {nm : ByteArray} {vo : Value} {D : DataW Value} (hb : w2.heap[g]? = some (.cells #[.map (some bm), .int .i64 S1.ver, .string S1.root, vo, .int .i64 S1.calls] 55 (0, 0)))
    (hown : w2.ownsMap Tryd.prog 9 tokR bm n D) (hk : MapK w2 F D S1.m) (hO : OutAt w2 F vo S1.outs) (hbF : F bm) (hgF : F g) 
    (hown4 : w4.ownsMap Tryd.prog 9 tokR bm n (D.del (litS nm))) (ht : w2.mapTurned w4 bm) : BAt w4 F g n (S1.set nm none) ∧ Went F F w2 w4 := by
  have hg := ht.grown
  obtain ⟨es, clock, hbm, _⟩ := hown
  have hne : ∀ (k : Nat) (cs : Array Value) (t : TypeId), w2.heap[k]? = some (.cells cs t (0, 0)) → k ≠ bm := fun k cs t h e => by
    subst e
    rw [hbm] at h
    cases h
  have hcell : ∀ (k : Nat) (cs : Array Value) (t : TypeId), w2.heap[k]? = some (.cells cs t (0, 0)) → w4.heap[k]? = w2.heap[k]? := fun k cs t h => hg.block k (blk_lt h) (fun e => hne k cs t h (Option.some.inj e))
  exact ⟨⟨bm, vo, (hcell _ _ _ hb).trans hb, hgF, ⟨_, hown4, hbF, hk.del nm (fun v b h => h.move (fun k cs _ h => hcell k cs 5 h) (fun k h _ => h))⟩, hO.move (fun k cs _ h => hcell k cs 3 h) (fun k h _ => h)⟩, ⟨Chg.grown hg hbF, fun k h => .inl h⟩⟩
set_option maxHeartbeats 2000000 in
set_option maxRecDepth 100000 in
theorem del_calls {W : World} {F : Nat → Prop} {g n : Nat} {S : BSt} (h : BAt W F g n S) (hF : ∀ k, F k → k < W.heap.size) (nm : ByteArray) :
    Calls Tryd.prog 20 #[.pointer (some ⟨g, 0, none⟩), .string nm] W fun e W' => e = .returned (.int .i64 (S.del nm).2) ∧ BAt W' F g n (S.del nm).1 ∧ Went F F W W' := by
  have Xh := Aside0.mk h
  have XF := Aside0.mk hF
  clear h hF
  have hN := named_calls ⟨g, 0, none⟩ nm W
  cases hB : nameB nm
  · have hp : S.del nm = (S, 6) := by unfold BSt.del; rw [hB]; rfl
    have e0 : namedI nm = 6 := by unfold namedI; rw [hB]; rfl
    rw [e0] at hN
    rw [hp]
    have XN := Aside0.mk hN
    clear hN hB hp e0
    go_enter Tryd.func20, Tryd.ntmps20
    go_wp2_with (first | (go_at_call 23; refine XN.out.mono ?_; rintro e w' ⟨rfl, hw⟩) | fail)
    go_ret
    exact ⟨rfl, Xh.out.below hw, Went.of hw⟩
  have e0 : namedI nm = 0 := by unfold namedI; rw [hB]; rfl
  rw [e0] at hN
  have XB := Aside0.mk hB
  have XN := Aside0.mk hN
  clear hN hB e0
  obtain ⟨o, ho⟩ : ∃ o, o = S.o := ⟨_, rfl⟩
  have Xo := Aside0.mk ho
  obtain ⟨S1, hS1⟩ : ∃ S1, S1 = S.next := ⟨_, rfl⟩
  have XS := Aside0.mk hS1
  have hK : ∀ w1, Below W.heap.size W w1 → Calls Tryd.prog 24 #[.pointer (some ⟨g, 0, none⟩)] w1 fun e W' => e = .returned (.int .i64 o) ∧ BAt W' F g n S1 ∧ Went F F W W' := fun w1 hw1 => by
    rw [hS1, ho]
    refine (take_calls (Xh.out.below hw1)).mono ?_
    rintro e w2 ⟨rfl, hb2, hg2⟩
    obtain ⟨bm, vo, hb, hFg, _⟩ := Xh.out
    exact ⟨rfl, hb2, (Went.of hw1).trans ⟨Chg.grown hg2 hFg, fun _ h => .inl h⟩⟩
  have XK := Aside0.mk hK
  clear hK hS1
  have hT : ∀ w, Calls Tryd.prog 26 #[.int .i64 o] w fun e W' => e = .returned (.int .i64 (toldI o)) ∧ W' = w := fun w => told_calls o w
  have XT := Aside0.mk hT
  clear hT
  have hp : S.del nm = (if S.o = 1 then S.next else S.next.set nm none, toldI S.o) := by unfold BSt.del; rw [XB.out, if_pos rfl]
  rw [hp, ← ho, ← XS.out]
  clear hp
  by_cases h1 : o = 1
  · rw [if_pos h1]
    have hb1 : (o != 1) = false := by simp [h1]
    clear h1 ho
    go_enter Tryd.func20, Tryd.ntmps20
    go_wp2_with (first | (go_at_call 23; refine XN.out.mono ?_; rintro e w' ⟨rfl, hw⟩; have Xw := Aside0.mk hw; clear hw) | (go_at_call 24; refine (XK.out _ Xw.out).mono ?_; rintro e w2 ⟨rfl, hb2, hW2⟩; have XW := Aside0.mk hW2; have Xb2 := Aside0.mk hb2; obtain ⟨bm, vo, hb, hFg, ⟨D, hown, hbF, hk⟩, hO⟩ := hb2; have c0 : w2.cell? ⟨g, 0, none⟩ = some (.map (some bm)) := blk_cell hb 0; have Xhb := Aside0.mk hb; have Xown := Aside0.mk hown; have Xk := Aside0.mk hk; have XO := Aside0.mk hO; have XbF := Aside0.mk hbF; have XgF := Aside0.mk hFg; clear hb hown hk hO hbF hFg hW2) | (go_at_call 26; refine (XT.out _).mono ?_; rintro e w3 ⟨rfl, rfl⟩) | fail)
    go_ret
    exact ⟨rfl, Xb2.out, XW.out⟩
  · rw [if_neg h1]
    have hb1 : (o != 1) = true := bne_iff_ne.2 h1
    clear h1 ho
    go_enter Tryd.func20, Tryd.ntmps20
    go_wp2_with (first | (go_at_call 23; refine XN.out.mono ?_; rintro e w' ⟨rfl, hw⟩; have Xw := Aside0.mk hw; clear hw) | (go_at_call 24; refine (XK.out _ Xw.out).mono ?_; rintro e w2 ⟨rfl, hb2, hW2⟩; have XW := Aside0.mk hW2; have Xb2 := Aside0.mk hb2; obtain ⟨bm, vo, hb, hFg, ⟨D, hown, hbF, hk⟩, hO⟩ := hb2; have c0 : w2.cell? ⟨g, 0, none⟩ = some (.map (some bm)) := blk_cell hb 0; have Xhb := Aside0.mk hb; have Xown := Aside0.mk hown; have Xk := Aside0.mk hk; have XO := Aside0.mk hO; have XbF := Aside0.mk hbF; have XgF := Aside0.mk hFg; clear hb hown hk hO hbF hFg hW2) | (at_delete; refine wpList_delete_own _ rfl _ _ 53 9 rfl 30 law9 Tryd.underlying53 tokR bm n D rfl Xown.out _ _ rfl (key9 (by have := nameB_size XB.out; simp only [maxLen]; omega)) ?_; intro w4 hown4 hturn4; have X4 := Aside0.mk hown4; have XT4 := Aside0.mk hturn4; clear hown4 hturn4) | (go_at_call 26; refine (XT.out _).mono ?_; rintro e w3 ⟨rfl, rfl⟩) | fail)
    go_ret
    obtain ⟨h5, h6⟩ := del_end Xhb.out Xown.out Xk.out XO.out XbF.out XgF.out X4.out XT4.out
    exact ⟨rfl, h5, XW.out.trans h6⟩
end
end Go.Proofs.YtcallfgihohldaaDoor.PA
namespace Go.Proofs.YtcallfgihohldaaDoor.PA
section

open Go.RowKit Go.Proofs.YtcallfgihohldaaDoorW.PrintWords Go.Proofs.YtcallfgihohldaaDoorW.PrintLast Go.Proofs.YtcallfgihohldaaDoorW.PrintMore
attribute [local go_sem] max2_int min2_int max_two min_two max_three min_three max_four min_four
set_option linter.unusedVariables false
set_option linter.unusedSimpArgs false
theorem swap_end {w2 : World} {F : Nat → Prop} {g n bm : Nat} {S1 : BSt} {vo : Value} (hb : w2.heap[g]? = some (.cells #[.map (some bm), .int .i64 S1.ver, .string S1.root, vo, .int .i64 S1.calls] 55 (0, 0)))
    (hM : MapAt w2 F bm n S1.m) (hO : OutAt w2 F vo S1.outs) (hgF : F g) (x : Int) (s : ByteArray) :
    BAt ((w2.setCell ⟨g, 1, none⟩ (.int .i64 x)).setCell ⟨g, 2, none⟩ (.string s)) F g n { S1 with ver := x, root := s } ∧ Went F F w2 ((w2.setCell ⟨g, 1, none⟩ (.int .i64 x)).setCell ⟨g, 2, none⟩ (.string s)) := by
  have g1 := grown_one w2 g 1 (.int .i64 x)
  have g2 := grown_one (w2.setCell ⟨g, 1, none⟩ (.int .i64 x)) g 2 (.string s)
  have hg := g1.trans g2
  have hk : ∀ k, k < w2.heap.size → k ≠ g → _ = w2.heap[k]? := fun k hl hn => hg.block k hl (fun e => hn (Option.some.inj e))
  exact ⟨⟨bm, vo, heap_setCell_same _ g 2 _ 55 _ (heap_setCell_same w2 g 1 _ 55 (.int .i64 x) hb), hgF, hM.keep hb (by decide) hk, hO.keep hb (by decide) hk⟩, ⟨Chg.grown hg hgF, fun k h => .inl h⟩⟩
set_option maxHeartbeats 2000000 in
set_option maxRecDepth 100000 in
theorem swap_calls {W : World} {F : Nat → Prop} {g n : Nat} {S : BSt} (h : BAt W F g n S) (hF : ∀ k, F k → k < W.heap.size) (v : Int) (nm : ByteArray) :
    Calls Tryd.prog 18 #[.pointer (some ⟨g, 0, none⟩), .int .i64 v, .string nm] W fun e W' => e = .returned (.int .i64 (S.swap v nm).2) ∧ BAt W' F g n (S.swap v nm).1 ∧ Went F F W W' := by
  have Xh := Aside0.mk h
  have XF := Aside0.mk hF
  clear h hF
  have hN := named_calls ⟨g, 0, none⟩ nm W
  cases hB : nameB nm
  · have hp : S.swap v nm = (S, 6) := by unfold BSt.swap; rw [hB]; rfl
    have e0 : namedI nm = 6 := by unfold namedI; rw [hB]; rfl
    rw [e0] at hN
    rw [hp]
    have XN := Aside0.mk hN
    clear hN hB hp e0
    go_enter Tryd.func18, Tryd.ntmps18
    go_wp2_with (first | (go_at_call 23; refine XN.out.mono ?_; rintro e w' ⟨rfl, hw⟩) | fail)
    go_ret
    exact ⟨rfl, Xh.out.below hw, Went.of hw⟩
  have e0 : namedI nm = 0 := by unfold namedI; rw [hB]; rfl
  rw [e0] at hN
  have XB := Aside0.mk hB
  have XN := Aside0.mk hN
  clear hN hB e0
  obtain ⟨o, ho⟩ : ∃ o, o = S.o := ⟨_, rfl⟩
  have Xo := Aside0.mk ho
  obtain ⟨S1, hS1⟩ : ∃ S1, S1 = S.next := ⟨_, rfl⟩
  have XS := Aside0.mk hS1
  have hK : ∀ w1, Below W.heap.size W w1 → Calls Tryd.prog 24 #[.pointer (some ⟨g, 0, none⟩)] w1 fun e W' => e = .returned (.int .i64 o) ∧ BAt W' F g n S1 ∧ Went F F W W' := fun w1 hw1 => by
    rw [hS1, ho]
    refine (take_calls (Xh.out.below hw1)).mono ?_
    rintro e w2 ⟨rfl, hb2, hg2⟩
    obtain ⟨bm, vo, hb, hFg, _⟩ := Xh.out
    exact ⟨rfl, hb2, (Went.of hw1).trans ⟨Chg.grown hg2 hFg, fun _ h => .inl h⟩⟩
  have XK := Aside0.mk hK
  clear hK hS1
  have hT : ∀ w, Calls Tryd.prog 26 #[.int .i64 o] w fun e W' => e = .returned (.int .i64 (toldI o)) ∧ W' = w := fun w => told_calls o w
  have XT := Aside0.mk hT
  clear hT
  have hwr : IntKind.i64.wrap (v + 1) = wrap64 (v + 1) := by unfold wrap64; exact IntKind.wrap_i64 _
  have hp : S.swap v nm = (if S.o ≠ 1 ∧ v = S1.ver then { S1 with ver := wrap64 (v + 1), root := nm } else S1, if S.o = 0 ∧ v ≠ S1.ver then 17 else toldI S.o) := by unfold BSt.swap; rw [XB.out, if_pos rfl, XS.out]; rfl
  rw [hp, ← ho]
  clear hp
  by_cases hv : v = S1.ver
  · have hbv : (v == S1.ver) = true := by simp [hv]
    rw [if_neg (fun h : o = 0 ∧ v ≠ S1.ver => h.2 hv)]
    by_cases h1 : o = 1
    · rw [if_neg (fun h : o ≠ 1 ∧ v = S1.ver => h.1 h1)]
      have hb1 : (o != 1) = false := by simp [h1]
      have hb0 : (o == 0) = false := by simp [h1]
      clear h1 ho hv
      go_enter Tryd.func18, Tryd.ntmps18
      go_wp2_with (first | (go_at_call 23; refine XN.out.mono ?_; rintro e w' ⟨rfl, hw⟩; have Xw := Aside0.mk hw; clear hw) | (go_at_call 24; refine (XK.out _ Xw.out).mono ?_; rintro e w2 ⟨rfl, hb2, hW2⟩; have XW := Aside0.mk hW2; have Xb2 := Aside0.mk hb2; obtain ⟨bm, vo, hb, hFg, hM, hO⟩ := hb2; have c1 : w2.cell? ⟨g, 1, none⟩ = some (.int .i64 S1.ver) := blk_cell hb 1; have c2 : w2.cell? ⟨g, 2, none⟩ = some (.string S1.root) := blk_cell hb 2; have f1 : w2.frozen? ⟨g, 1, none⟩ = false := blk_frozen hb 1; have f2 : w2.frozen? ⟨g, 2, none⟩ = false := blk_frozen hb 2; have Xhb := Aside0.mk hb; have XM := Aside0.mk hM; have XO := Aside0.mk hO; have XgF := Aside0.mk hFg; clear hb hM hO hFg hW2) | (go_at_call 26; refine (XT.out _).mono ?_; rintro e w3 ⟨rfl, rfl⟩) | fail)
      go_ret
      exact ⟨rfl, Xb2.out, XW.out⟩
    · rw [if_pos ⟨h1, hv⟩]
      have hb1 : (o != 1) = true := bne_iff_ne.2 h1
      clear h1 ho hv
      by_cases h0 : o = 0
      · have hb0 : (o == 0) = true := by simp [h0]
        clear h0
        go_enter Tryd.func18, Tryd.ntmps18
        go_wp2_with (first | (go_at_call 23; refine XN.out.mono ?_; rintro e w' ⟨rfl, hw⟩; have Xw := Aside0.mk hw; clear hw) | (go_at_call 24; refine (XK.out _ Xw.out).mono ?_; rintro e w2 ⟨rfl, hb2, hW2⟩; have XW := Aside0.mk hW2; have Xb2 := Aside0.mk hb2; obtain ⟨bm, vo, hb, hFg, hM, hO⟩ := hb2; have c1 : w2.cell? ⟨g, 1, none⟩ = some (.int .i64 S1.ver) := blk_cell hb 1; have c2 : w2.cell? ⟨g, 2, none⟩ = some (.string S1.root) := blk_cell hb 2; have f1 : w2.frozen? ⟨g, 1, none⟩ = false := blk_frozen hb 1; have f2 : w2.frozen? ⟨g, 2, none⟩ = false := blk_frozen hb 2; have Xhb := Aside0.mk hb; have XM := Aside0.mk hM; have XO := Aside0.mk hO; have XgF := Aside0.mk hFg; clear hb hM hO hFg hW2) | (go_at_call 26; refine (XT.out _).mono ?_; rintro e w3 ⟨rfl, rfl⟩) | fail)
        go_ret
        obtain ⟨h5, h6⟩ := swap_end Xhb.out XM.out XO.out XgF.out (wrap64 (v + 1)) nm
        exact ⟨rfl, h5, XW.out.trans h6⟩
      · have hb0 : (o == 0) = false := by simp [h0]
        clear h0
        go_enter Tryd.func18, Tryd.ntmps18
        go_wp2_with (first | (go_at_call 23; refine XN.out.mono ?_; rintro e w' ⟨rfl, hw⟩; have Xw := Aside0.mk hw; clear hw) | (go_at_call 24; refine (XK.out _ Xw.out).mono ?_; rintro e w2 ⟨rfl, hb2, hW2⟩; have XW := Aside0.mk hW2; have Xb2 := Aside0.mk hb2; obtain ⟨bm, vo, hb, hFg, hM, hO⟩ := hb2; have c1 : w2.cell? ⟨g, 1, none⟩ = some (.int .i64 S1.ver) := blk_cell hb 1; have c2 : w2.cell? ⟨g, 2, none⟩ = some (.string S1.root) := blk_cell hb 2; have f1 : w2.frozen? ⟨g, 1, none⟩ = false := blk_frozen hb 1; have f2 : w2.frozen? ⟨g, 2, none⟩ = false := blk_frozen hb 2; have Xhb := Aside0.mk hb; have XM := Aside0.mk hM; have XO := Aside0.mk hO; have XgF := Aside0.mk hFg; clear hb hM hO hFg hW2) | (go_at_call 26; refine (XT.out _).mono ?_; rintro e w3 ⟨rfl, rfl⟩) | fail)
        go_ret
        obtain ⟨h5, h6⟩ := swap_end Xhb.out XM.out XO.out XgF.out (wrap64 (v + 1)) nm
        exact ⟨rfl, h5, XW.out.trans h6⟩
  · have hbv : (v == S1.ver) = false := by simp [hv]
    rw [if_neg (fun h : o ≠ 1 ∧ v = S1.ver => hv h.2)]
    by_cases h0 : o = 0
    · rw [if_pos ⟨h0, hv⟩]
      have hb0 : (o == 0) = true := by simp [h0]
      have hb1 : (o != 1) = true := by simp [h0]
      clear h0 ho hv
      go_enter Tryd.func18, Tryd.ntmps18
      go_wp2_with (first | (go_at_call 23; refine XN.out.mono ?_; rintro e w' ⟨rfl, hw⟩; have Xw := Aside0.mk hw; clear hw) | (go_at_call 24; refine (XK.out _ Xw.out).mono ?_; rintro e w2 ⟨rfl, hb2, hW2⟩; have XW := Aside0.mk hW2; have Xb2 := Aside0.mk hb2; obtain ⟨bm, vo, hb, hFg, hM, hO⟩ := hb2; have c1 : w2.cell? ⟨g, 1, none⟩ = some (.int .i64 S1.ver) := blk_cell hb 1; have c2 : w2.cell? ⟨g, 2, none⟩ = some (.string S1.root) := blk_cell hb 2; have f1 : w2.frozen? ⟨g, 1, none⟩ = false := blk_frozen hb 1; have f2 : w2.frozen? ⟨g, 2, none⟩ = false := blk_frozen hb 2; have Xhb := Aside0.mk hb; have XM := Aside0.mk hM; have XO := Aside0.mk hO; have XgF := Aside0.mk hFg; clear hb hM hO hFg hW2) | (go_at_call 26; refine (XT.out _).mono ?_; rintro e w3 ⟨rfl, rfl⟩) | fail)
      go_ret
      exact ⟨rfl, Xb2.out, XW.out⟩
    · rw [if_neg (fun h : o = 0 ∧ v ≠ S1.ver => h0 h.1)]
      have hb0 : (o == 0) = false := by simp [h0]
      clear h0 ho hv
      by_cases h1 : o = 1
      · have hb1 : (o != 1) = false := by simp [h1]
        clear h1
        go_enter Tryd.func18, Tryd.ntmps18
        go_wp2_with (first | (go_at_call 23; refine XN.out.mono ?_; rintro e w' ⟨rfl, hw⟩; have Xw := Aside0.mk hw; clear hw) | (go_at_call 24; refine (XK.out _ Xw.out).mono ?_; rintro e w2 ⟨rfl, hb2, hW2⟩; have XW := Aside0.mk hW2; have Xb2 := Aside0.mk hb2; obtain ⟨bm, vo, hb, hFg, hM, hO⟩ := hb2; have c1 : w2.cell? ⟨g, 1, none⟩ = some (.int .i64 S1.ver) := blk_cell hb 1; have c2 : w2.cell? ⟨g, 2, none⟩ = some (.string S1.root) := blk_cell hb 2; have f1 : w2.frozen? ⟨g, 1, none⟩ = false := blk_frozen hb 1; have f2 : w2.frozen? ⟨g, 2, none⟩ = false := blk_frozen hb 2; have Xhb := Aside0.mk hb; have XM := Aside0.mk hM; have XO := Aside0.mk hO; have XgF := Aside0.mk hFg; clear hb hM hO hFg hW2) | (go_at_call 26; refine (XT.out _).mono ?_; rintro e w3 ⟨rfl, rfl⟩) | fail)
        go_ret
        exact ⟨rfl, Xb2.out, XW.out⟩
      · have hb1 : (o != 1) = true := bne_iff_ne.2 h1
        clear h1
        go_enter Tryd.func18, Tryd.ntmps18
        go_wp2_with (first | (go_at_call 23; refine XN.out.mono ?_; rintro e w' ⟨rfl, hw⟩; have Xw := Aside0.mk hw; clear hw) | (go_at_call 24; refine (XK.out _ Xw.out).mono ?_; rintro e w2 ⟨rfl, hb2, hW2⟩; have XW := Aside0.mk hW2; have Xb2 := Aside0.mk hb2; obtain ⟨bm, vo, hb, hFg, hM, hO⟩ := hb2; have c1 : w2.cell? ⟨g, 1, none⟩ = some (.int .i64 S1.ver) := blk_cell hb 1; have c2 : w2.cell? ⟨g, 2, none⟩ = some (.string S1.root) := blk_cell hb 2; have f1 : w2.frozen? ⟨g, 1, none⟩ = false := blk_frozen hb 1; have f2 : w2.frozen? ⟨g, 2, none⟩ = false := blk_frozen hb 2; have Xhb := Aside0.mk hb; have XM := Aside0.mk hM; have XO := Aside0.mk hO; have XgF := Aside0.mk hFg; clear hb hM hO hFg hW2) | (go_at_call 26; refine (XT.out _).mono ?_; rintro e w3 ⟨rfl, rfl⟩) | fail)
        go_ret
        exact ⟨rfl, Xb2.out, XW.out⟩
set_option maxHeartbeats 2000000 in
set_option maxRecDepth 100000 in
theorem root_calls {W : World} {F : Nat → Prop} {g n : Nat} {S : BSt} (h : BAt W F g n S) :
    Calls Tryd.prog 19 #[.pointer (some ⟨g, 0, none⟩)] W fun e W' => e = .returned (.tuple #[.int .i64 S.rootOf.2.1, .string S.rootOf.2.2.1, .int .i64 S.rootOf.2.2.2]) ∧ BAt W' F g n S.rootOf.1 ∧ Went F F W W' := by
  have Xh := Aside0.mk h
  clear h
  obtain ⟨o, ho⟩ : ∃ o, o = S.o := ⟨_, rfl⟩
  obtain ⟨S1, hS1⟩ : ∃ S1, S1 = S.next := ⟨_, rfl⟩
  have hK : Calls Tryd.prog 24 #[.pointer (some ⟨g, 0, none⟩)] W fun e W' => e = .returned (.int .i64 o) ∧ BAt W' F g n S1 ∧ Went F F W W' := by
    rw [hS1, ho]
    refine (take_calls Xh.out).mono ?_
    rintro e w2 ⟨rfl, hb2, hg2⟩
    obtain ⟨bm, vo, hb, hFg, _⟩ := Xh.out
    exact ⟨rfl, hb2, ⟨Chg.grown hg2 hFg, fun _ h => .inl h⟩⟩
  have XK := Aside0.mk hK
  have hp : S.rootOf = if o ≠ 0 then (S1, 0, ⟨#[]⟩, 15) else (S1, S1.ver, S1.root, 0) := by unfold BSt.rootOf; rw [ho, hS1]; rfl
  rw [hp]
  clear hK hS1 ho hp
  by_cases h0 : o = 0
  · rw [if_neg (fun h => h h0)]
    have hb0 : (o != 0) = false := by simp [h0]
    clear h0
    go_enter Tryd.func19, Tryd.ntmps19
    go_wp2_with (first | (go_at_call 24; refine XK.out.mono ?_; rintro e w2 ⟨rfl, hb2, hW2⟩; have XW := Aside0.mk hW2; have Xb2 := Aside0.mk hb2; obtain ⟨bm, vo, hb, hFg, hM, hO⟩ := hb2; have c1 : w2.cell? ⟨g, 1, none⟩ = some (.int .i64 S1.ver) := blk_cell hb 1; have c2 : w2.cell? ⟨g, 2, none⟩ = some (.string S1.root) := blk_cell hb 2; clear hb hM hO hFg hW2) | fail)
    go_quiet (fail)
    go_wp2
    go_ret3
    exact ⟨rfl, Xb2.out.below (pw_below_drewN (Below.refl _ _) _), XW.out.trans (Went.of (pw_below_drewN (Below.refl _ _) _))⟩
  · rw [if_pos h0]
    have hb0 : (o != 0) = true := bne_iff_ne.2 h0
    clear h0
    go_enter Tryd.func19, Tryd.ntmps19
    go_wp2_with (first | (go_at_call 24; refine XK.out.mono ?_; rintro e w2 ⟨rfl, hb2, hW2⟩; have XW := Aside0.mk hW2; have Xb2 := Aside0.mk hb2; clear hb2 hW2) | fail)
    go_ret3
    exact ⟨rfl, Xb2.out, XW.out⟩
end
end Go.Proofs.YtcallfgihohldaaDoor.PA
namespace Go.Proofs.YtcallfgihohldaaDoor.PA
section

open Go.RowKit Go.Proofs.YtcallfgihohldaaDoorW.PrintWords Go.Proofs.YtcallfgihohldaaDoorW.PrintLast Go.Proofs.YtcallfgihohldaaDoorW.PrintMore
attribute [local go_sem] max2_int min2_int max_two min_two max_three min_three max_four min_four
set_option linter.unusedVariables false
set_option linter.unusedSimpArgs false
structure SAt (W : World) (B : Nat) (F : Nat → Prop) (g n : Nat) (S : BSt) : Prop where
  at_ : BAt W F g n S
  ge : ∀ k, F k → B ≤ k
  lt : ∀ k, F k → k < W.heap.size
  hB : B ≤ W.heap.size
theorem SAt.went {W W' : World} {B : Nat} {F F' : Nat → Prop} {g n n' : Nat} {S S' : BSt} (h : SAt W B F g n S) (hw : Went F F' W W') (hb : BAt W' F' g n' S') : SAt W' B F' g n' S' :=
  ⟨hb, hw.ge h.ge h.hB, hw.lt h.lt, Nat.le_trans h.hB hw.chg.size⟩
theorem SAt.below {W W' : World} {B : Nat} {F : Nat → Prop} {g n : Nat} {S : BSt} (h : SAt W B F g n S) (hb : Below W.heap.size W W') : SAt W' B F g n S := h.went (Went.of hb) (h.at_.below hb)
theorem SAt.drewN {W : World} {B : Nat} {F : Nat → Prop} {g n : Nat} {S : BSt} (h : SAt W B F g n S) (m : Nat) : SAt (W.drewN m) B F g n S := h.below (pw_below_drewN (Below.refl _ _) m)
theorem SAt.alloc {W : World} {B : Nat} {F : Nat → Prop} {g n : Nat} {S : BSt} (h : SAt W B F g n S) (o : Obj) : SAt (W.alloc o) B F g n S := h.below (below_alloc (Below.refl _ _) o)
theorem Went.under {F F' : Nat → Prop} {W W' : World} {B : Nat} (h : Went F F' W W') (hF : ∀ k, F k → B ≤ k) (hB : B ≤ W.heap.size) : Below B W W' := h.chg.below hF hB
theorem SAt.fresh {W : World} {B : Nat} {F : Nat → Prop} {g n : Nat} {S : BSt} (h : SAt W B F g n S) : ∀ ad : Addr, some ⟨W.heap.size, 0, none⟩ = some ad → ¬ F ad.block := fun ad e hF => by
  injection e with e
  subst e
  exact Nat.lt_irrefl _ (h.lt _ hF)
theorem SAt.then {w W W' : World} {B : Nat} {F F' : Nat → Prop} {g n : Nat} {S : BSt} (h : SAt W B F g n S) (hb : Below B w W) (hw : Went F F' W W') : Below B w W' := hb.trans (hw.under h.ge h.hB)
theorem SAt.more {w W W' : World} {B : Nat} {F : Nat → Prop} {g n : Nat} {S : BSt} (h : SAt W B F g n S) (hb : Below B w W) (hw : Below W.heap.size W W') : Below B w W' := hb.trans (hw.mono h.hB)
theorem SAt.bal {w W : World} {B : Nat} {F : Nat → Prop} {g n : Nat} {S : BSt} (h : SAt W B F g n S) (hb : Below B w W) (o : Obj) : Below B w (W.alloc o) := h.more hb (below_alloc (Below.refl _ _) o)
theorem sat_new (w : World) : Calls Tryd.prog 10 #[] w fun e W' => ∃ g F, e = .returned (.pointer (some ⟨g, 0, none⟩)) ∧ SAt W' w.heap.size F g 0 BSt.new ∧ Below w.heap.size w W' := by
  refine (new_calls w).mono ?_
  rintro e W' ⟨g, rfl, hb, hB⟩
  refine ⟨g, fun k => w.heap.size ≤ k ∧ k < W'.heap.size, rfl, ⟨hb.move (fun _ _ _ => rfl) (fun k h1 h2 => ⟨h1, h2⟩), fun k h => h.1, fun k h => h.2, hB.size⟩, hB⟩
theorem sat_calls {W : World} {B : Nat} {F : Nat → Prop} {g n : Nat} {S : BSt} (h : SAt W B F g n S) (c : Int) (hc : S.calls = c) : Calls Tryd.prog 17 #[.pointer (some ⟨g, 0, none⟩)] W fun e W' => e = .returned (.int .i64 c) ∧ W' = W := by
  subst hc
  exact calls_calls h.at_
theorem sat_script {W : World} {B : Nat} {F : Nat → Prop} {g n : Nat} {S : BSt} (h : SAt W B F g n S) (A : Option Addr) (k c : Nat) (l2 : List Int) (hk : k = l2.length) (hr : (Kd.int .i64).C W A l2.length l2) (hn : S.outs.length + l2.length ≤ 10000000) :
    Calls Tryd.prog 11 #[.pointer (some ⟨g, 0, none⟩), .slice A k c] W fun e W' => e = .returned (.tuple #[]) ∧ ∃ F', SAt W' B F' g n (S.script l2) ∧ Went F F' W W' := by
  subst hk
  refine (script_calls h.at_ h.lt A c l2 hr hn).mono ?_
  rintro e W' ⟨rfl, F', hb, hw⟩
  exact ⟨rfl, F', h.went hw hb, hw⟩
theorem sat_put {W : World} {B : Nat} {F : Nat → Prop} {g n : Nat} {S : BSt} (h : SAt W B F g n S) (hn : n < 1000000) (nm : ByteArray) (A : Option Addr) (k c : Nat) (b : List Int) (hk : k = b.length) (hA : ∀ ad, A = some ad → ¬ F ad.block) (hr : (Kd.int .u8).C W A b.length b) (r : BSt × Int) (hp : S.put nm b = r) :
    Calls Tryd.prog 12 #[.pointer (some ⟨g, 0, none⟩), .string nm, .slice A k c] W fun e W' => e = .returned (.int .i64 r.2) ∧ ∃ F', SAt W' B F' g (n + 1) r.1 ∧ Went F F' W W' := by
  subst hk hp
  refine (put_calls h.at_ h.lt hn nm A c b hA hr).mono ?_
  rintro e W' ⟨rfl, F', hb, hw⟩
  exact ⟨rfl, F', h.went hw hb, hw⟩
theorem sat_get {W : World} {B : Nat} {F : Nat → Prop} {g n : Nat} {S : BSt} (h : SAt W B F g n S) (nm : ByteArray) (r : BSt × List Int × Int) (hp : S.get nm = r) :
    Calls Tryd.prog 13 #[.pointer (some ⟨g, 0, none⟩), .string nm] W fun e W' => ∃ v, e = .returned (.tuple #[v, .int .i64 r.2.2]) ∧ BytesAt W' (fun k => W.heap.size ≤ k ∧ k < W'.heap.size) v r.2.1 ∧ SAt W' B F g n r.1 ∧ Went F F W W' := by
  subst hp
  refine (get_calls h.at_ h.lt nm).mono ?_
  rintro e W' ⟨v, rfl, hv, hb, hw⟩
  exact ⟨v, rfl, hv, h.went hw hb, hw⟩
theorem sat_del {W : World} {B : Nat} {F : Nat → Prop} {g n : Nat} {S : BSt} (h : SAt W B F g n S) (nm : ByteArray) (r : BSt × Int) (hp : S.del nm = r) :
    Calls Tryd.prog 20 #[.pointer (some ⟨g, 0, none⟩), .string nm] W fun e W' => e = .returned (.int .i64 r.2) ∧ SAt W' B F g n r.1 ∧ Went F F W W' := by
  subst hp
  refine (del_calls h.at_ h.lt nm).mono ?_
  rintro e W' ⟨rfl, hb, hw⟩
  exact ⟨rfl, h.went hw hb, hw⟩
theorem sat_swap {W : World} {B : Nat} {F : Nat → Prop} {g n : Nat} {S : BSt} (h : SAt W B F g n S) (v : Int) (nm : ByteArray) (r : BSt × Int) (hp : S.swap v nm = r) :
    Calls Tryd.prog 18 #[.pointer (some ⟨g, 0, none⟩), .int .i64 v, .string nm] W fun e W' => e = .returned (.int .i64 r.2) ∧ SAt W' B F g n r.1 ∧ Went F F W W' := by
  subst hp
  refine (swap_calls h.at_ h.lt v nm).mono ?_
  rintro e W' ⟨rfl, hb, hw⟩
  exact ⟨rfl, h.went hw hb, hw⟩
theorem sat_root {W : World} {B : Nat} {F : Nat → Prop} {g n : Nat} {S : BSt} (h : SAt W B F g n S) (r : BSt × Int × ByteArray × Int) (hp : S.rootOf = r) :
    Calls Tryd.prog 19 #[.pointer (some ⟨g, 0, none⟩)] W fun e W' => e = .returned (.tuple #[.int .i64 r.2.1, .string r.2.2.1, .int .i64 r.2.2.2]) ∧ SAt W' B F g n r.1 ∧ Went F F W W' := by
  subst hp
  refine (root_calls h.at_).mono ?_
  rintro e W' ⟨rfl, hb, hw⟩
  exact ⟨rfl, h.went hw hb, hw⟩
/-- The caller's row from a literal. -/
theorem C_row (k : IntKind) (W : World) (t : TypeId) (fr : Nat × Nat) (l : List Int) (hl : l.length ≤ 9223372036854775807) : (Kd.int k).C (W.alloc (.cells (l.map (fun x => Value.int k x)).toArray t fr)) (some ⟨W.heap.size, 0, none⟩) l.length l := by
  refine ⟨rfl, hl, fun _ => ⟨_, rfl, fun j p hj => ⟨[.int k p], rfl, rfl, fun q u hu => ?_⟩⟩⟩
  obtain ⟨hl, rfl⟩ := List.getElem?_eq_some_iff.1 hj
  cases q with
  | zero =>
    simp only [List.getElem?_cons_zero, Option.some.injEq] at hu
    subst hu
    rw [add_plain, cell_of_row _ _ _ _ _ _ (heap_alloc_new W _), show j * (Kd.int k).sz + 0 = j from Nat.mul_one j]
    simp [hj]
  | succ q => simp at hu
def pickO (x : Int) : Int := (wrap64 (x.tmod 3 + 3)).tmod 3
theorem BSt.o_nil {S : BSt} (h : S.outs = []) : S.o = 0 := by unfold BSt.o; rw [h]
theorem BSt.o_cons {S : BSt} {x : Int} {l : List Int} (h : S.outs = x :: l) : S.o = pickO x := by unfold BSt.o; rw [h]; rfl
theorem pickO_eq (x : Int) : pickO x = (x.tmod 3 + 3) % 3 := by
  unfold pickO
  have h1 := Int.tmod_lt_of_pos x (show (0 : Int) < 3 by decide)
  have h2 : -3 < x.tmod 3 := Int.lt_tmod_of_pos x (by decide)
  have hw : wrap64 (x.tmod 3 + 3) = x.tmod 3 + 3 := by unfold wrap64; omega
  rw [hw, Int.tmod_eq_emod_of_nonneg (by omega)]
theorem pickO_2 : pickO 2 = 2 := by rw [pickO_eq]; decide
theorem BSt.put_val {S : BSt} {nm : ByteArray} {b : List Int} {o : Int} (hn : nameB nm = true) (hl : b.length ≤ 60000) (ho : S.o = o) : S.put nm b = (if o = 1 then S.next else S.next.set nm (some b), toldI o) := by
  unfold BSt.put
  rw [hn, if_pos rfl, if_neg (by omega), ho]
theorem BSt.get_val {S : BSt} {nm : ByteArray} (hn : nameB nm = true) (ho : S.o = 0) : S.get nm = match S.m nm with | none => (S.next, [], 7) | some b => (S.next, b, 0) := by
  unfold BSt.get
  cases S.m nm <;> simp [hn, ho]
theorem nameB_of {s : ByteArray} (h : (!(s.data.toList == []) && decide (s.size ≤ 40) && s.data.toList.all okC) = true) : nameB s = true := by
  unfold nameB
  rw [Lib.toList_data]
  exact h
theorem name_a : nameB ⟨#[97]⟩ = true := nameB_of (by decide)
end
end Go.Proofs.YtcallfgihohldaaDoor.PA
namespace Go.Proofs.YtcallfgihohldaaDoor.PA
section

open Go.RowKit Go.Proofs.YtcallfgihohldaaDoorW.PrintWords Go.Proofs.YtcallfgihohldaaDoorW.PrintLast Go.Proofs.YtcallfgihohldaaDoorW.PrintMore
attribute [local go_sem] max2_int min2_int max_two min_two max_three min_three max_four min_four
set_option linter.unusedVariables false
set_option linter.unusedSimpArgs false
theorem known_vals : ∃ S1 S2 S3 : BSt, BSt.new.put ⟨#[97]⟩ [120] = (S1, 0) ∧ S1.outs = [] ∧ (S1.script [2]).put ⟨#[97]⟩ [121] = (S2, 15) ∧ S2.get ⟨#[97]⟩ = (S3, [121], 0) ∧ S3.calls = 3 := by
  have h1 := BSt.put_val (S := BSt.new) (b := [120]) name_a (by decide) (BSt.o_nil rfl)
  have h2 := BSt.put_val (S := (BSt.new.next.set ⟨#[97]⟩ (some [120])).script [2]) (b := [121]) (o := 2) name_a (by decide) ((BSt.o_cons (x := 2) (l := []) rfl).trans pickO_2)
  have h3 := BSt.get_val (S := ((BSt.new.next.set ⟨#[97]⟩ (some [120])).script [2]).next.set ⟨#[97]⟩ (some [121])) name_a (BSt.o_nil rfl)
  have h4 : (((BSt.new.next.set ⟨#[97]⟩ (some [120])).script [2]).next.set ⟨#[97]⟩ (some [121])).m ⟨#[97]⟩ = some [121] := by unfold BSt.set; simp
  rw [h4] at h3
  exact ⟨_, _, _, h1, rfl, h2, h3, by simp [BSt.next, BSt.set, BSt.script, BSt.new, wrap64]⟩
set_option maxHeartbeats 4000000 in
set_option maxRecDepth 100000 in
theorem known_calls (w : World) : Calls Tryd.prog 9 #[] w fun e w' => e = .returned (.bool true) ∧ Below w.heap.size w w' := by
  obtain ⟨S1, S2, S3, h1, h2, h3, h4, h5⟩ := known_vals
  have H1 := Aside0.mk h1
  have H2 := Aside0.mk h2
  have H3 := Aside0.mk h3
  have H4 := Aside0.mk h4
  have H5 := Aside0.mk h5
  clear h1 h2 h3 h4 h5
  have kc := fun (w : World) (C : Array Value) (n c : Nat) => Lib.run_convert_bytes_const (P := Tryd.prog) w 30 5 C n c Tryd.underlying30 Tryd.underlying5
  go_enter Tryd.func9, Tryd.ntmps9
  go_wp2_with fail
  refine (sat_new w).mono ?_
  rintro e wa ⟨g, F, rfl, hS, hB⟩
  have SA := Aside0.mk hS
  have BA := Aside0.mk hB
  clear hS hB
  go_wp2_with fail
  refine (sat_put (SA.out.alloc (.cells #[.int .u8 120] 5 (1, 2))) (by decide) _ _ _ _ [120] rfl SA.out.fresh (C_row .u8 wa 5 (1, 2) [120] (by decide)) _ H1.out).mono ?_
  rintro e wb ⟨rfl, F2, hS, hW⟩
  have SB := Aside0.mk hS
  have BB := Aside0.mk ((SA.out.alloc _).then (SA.out.bal BA.out _) hW)
  clear hS hW
  go_wp2_with fail
  refine (sat_script (SB.out.alloc (.cells #[.int .i64 2] 3)) _ _ _ [2] rfl (C_row .i64 wb 3 (0, 0) [2] (by decide)) (by rw [H2.out]; decide)).mono ?_
  rintro e wc ⟨rfl, F3, hS, hW⟩
  have SC := Aside0.mk hS
  have BC := Aside0.mk ((SB.out.alloc _).then (SB.out.bal BB.out _) hW)
  clear hS hW
  go_wp2_with fail
  refine (sat_put (SC.out.alloc (.cells #[.int .u8 121] 5 (1, 2))) (by decide) _ _ _ _ [121] rfl SC.out.fresh (C_row .u8 wc 5 (1, 2) [121] (by decide)) _ H3.out).mono ?_
  rintro e wd ⟨rfl, F4, hS, hW⟩
  have SD := Aside0.mk hS
  have BD := Aside0.mk ((SC.out.alloc _).then (SC.out.bal BC.out _) hW)
  clear hS hW
  go_wp2_with fail
  refine (sat_get SD.out _ _ H4.out).mono ?_
  rintro e we ⟨v, rfl, hv, hS, hW⟩
  have SE := Aside0.mk hS
  have BE := Aside0.mk (SD.out.then BD.out hW)
  obtain ⟨A, c, rfl, hr, _⟩ := hv.reads
  have hcv : (convert 30 9 (.slice A 1 c)).run Tryd.prog we = .ok (.string ⟨#[121]⟩) we := Kd.C_string (c := c) (P := Tryd.prog) (src := 30) (dst := 9) Tryd.underlying30 Tryd.underlying5 Tryd.underlying9 hr
  clear hS hW hv hr
  go_wp2_with fail
  refine (sat_calls SE.out 3 H5.out).mono ?_
  rintro e wf ⟨rfl, rfl⟩
  go_wp2_with fail
  go_ret
  exact ⟨rfl, BE.out⟩
end
end Go.Proofs.YtcallfgihohldaaDoor.PA
namespace Go.Proofs.YtcallfgihohldaaDoor.PA
section

open Go.RowKit Go.Proofs.YtcallfgihohldaaDoorW.PrintWords Go.Proofs.YtcallfgihohldaaDoorW.PrintLast Go.Proofs.YtcallfgihohldaaDoorW.PrintMore
attribute [local go_sem] max2_int min2_int max_two min_two max_three min_three max_four min_four
set_option linter.unusedVariables false
set_option linter.unusedSimpArgs false
theorem str_bytes (s : ByteArray) : strOfNums (bytesOf s) = s := by
  obtain ⟨⟨l⟩⟩ := s
  have h : (l.map fun b => UInt8.ofNat ((b.toNat : Int)).toNat) = l := by
    have : (fun b : UInt8 => UInt8.ofNat ((b.toNat : Int)).toNat) = id := by
      funext b
      rw [Int.toNat_natCast, UInt8.ofNat_toNat]
      rfl
    rw [this, List.map_id]
  simp only [strOfNums, bytesOf, List.map_map]
  congr 1
  exact congrArg List.toArray h
def MayAt (W : World) (F : Nat → Prop) (v : Value) (M : List ByteArray) : Prop :=
  (v = .slice none 0 0 ∧ M = []) ∨ ∃ q c cs, v = .slice (some ⟨q, 0, none⟩) M.length c ∧ M.length ≤ c ∧ ¬ F q ∧ W.heap[q]? = some (.cells cs 9 (0, 0)) ∧ ∀ i (h : i < M.length), cs[i]? = some (.string M[i])
theorem MayAt.went {W W' : World} {F F' : Nat → Prop} {v : Value} {M : List ByteArray} (h : MayAt W F v M) (hw : Went F F' W W') : MayAt W' F' v M := by
  rcases h with h | ⟨q, c, cs, h1, h2, h3, h4, h5⟩
  · exact .inl h
  · exact .inr ⟨q, c, cs, h1, h2, hw.out (blk_lt h4) h3, (hw.chg.block q (blk_lt h4) h3).trans h4, h5⟩
theorem MayAt.slice {W : World} {F : Nat → Prop} {v : Value} {M : List ByteArray} (h : MayAt W F v M) : ∃ A c, v = .slice A M.length c ∧ (0 < M.length → ∃ ad, A = some ad ∧ ∀ j u, (M.map Value.string)[j]? = some u → W.cell? (ad.add j) = some u) := by
  rcases h with ⟨rfl, rfl⟩ | ⟨q, c, cs, rfl, h2, h3, h4, h5⟩
  · exact ⟨none, 0, rfl, fun h => absurd h (by simp)⟩
  · refine ⟨_, c, rfl, fun _ => ⟨_, rfl, fun j u hu => ?_⟩⟩
    rw [List.getElem?_map, Option.map_eq_some_iff] at hu
    obtain ⟨x, hx, rfl⟩ := hu
    obtain ⟨hl, rfl⟩ := List.getElem?_eq_some_iff.1 hx
    rw [add_plain, blk_cell h4]
    exact h5 j hl
theorem MayAt.of_own {W W0 : World} {F : Nat → Prop} {v : Value} {M : List ByteArray} (h : W.ownsRow W0.heap.size 9 1 v M.length (M.map Value.string)) (hF : ∀ k, F k → k < W0.heap.size) : MayAt W F v M := by
  rcases h.2 with ⟨rfl, h0⟩ | ⟨q, cap, cur, rfl, hbg, hgb, hnc, hcm, hcs, htake⟩
  · exact .inl ⟨rfl, List.eq_nil_of_length_eq_zero h0⟩
  · refine .inr ⟨q, cap, cur, rfl, hnc, fun hf => by have := hF q hf; omega, hgb, fun i hi => ?_⟩
    have h1 : (M.map Value.string)[i]? = some (.string M[i]) := by rw [List.getElem?_map, List.getElem?_eq_getElem hi]; rfl
    rw [← htake, List.getElem?_take] at h1
    split at h1
    · rw [← Array.getElem?_toList]; exact h1
    · cases h1
/-- An append of strings onto a row of one's own; the row may be nil or empty. -/
theorem app9 {W : World} {base : Nat} {v : Value} {xs : List ByteArray} (hown : W.ownsRow base 9 1 v xs.length (xs.map Value.string)) (hb : base ≤ W.heap.size) (A : Option Addr) (c : Nat) (ys : List ByteArray)
    (hy : 0 < ys.length → ∃ ad, A = some ad ∧ ∀ j u, (ys.map Value.string)[j]? = some u → W.cell? (ad.add j) = some u) (hn : xs.length + ys.length ≤ 1000000) (ty : TypeId) :
    ∃ A' c' W', (Builtin.append_ #[22, 22] ty #[v, .slice A ys.length c]).run Tryd.prog W = .ok (.slice A' (xs ++ ys).length c') W' ∧ W'.ownsRow base 9 1 (.slice A' (xs ++ ys).length c') (xs ++ ys).length ((xs ++ ys).map Value.string) ∧ W.grownBy W' v.ownBlock := by
  have ht : Tryd.prog.underlying 22 = some (.slice 9) := by kernel_rfl
  obtain ⟨i, hi, hzz⟩ := Option.map_eq_some_iff.1 info9'
  simp only [Prod.mk.injEq] at hzz
  obtain ⟨hz, hs, hby⟩ := hzz
  have form : ∀ {v' : Value} {W' : World}, W'.ownsRow base 9 1 v' (xs ++ ys).length ((xs ++ ys).map Value.string) → ∃ A' c', v' = .slice A' (xs ++ ys).length c' := fun h => by
    rcases h.2 with ⟨rfl, h0⟩ | ⟨q, cap, cur, rfl, _⟩
    · exact ⟨none, 0, by rw [h0]⟩
    · exact ⟨_, _, rfl⟩
  rcases Nat.eq_zero_or_pos ys.length with h0 | h0
  · have e2 : ys = [] := List.eq_nil_of_length_eq_zero h0
    subst e2
    have hown' := hown
    rw [← List.append_nil xs] at hown'
    obtain ⟨A', c', e⟩ := form hown'
    subst e
    refine ⟨A', c', W, ?_, hown', ⟨rfl, rfl, rfl, Nat.le_refl _, fun _ _ _ => rfl⟩⟩
    have hcc : (xs ++ []).length ≤ c' := by
      rcases hown'.2 with ⟨h, h0⟩ | ⟨q, cap, cur, h, _, _, hnc, _⟩
      · injection h with _ h2 h3
        omega
      · injection h with _ _ h3
        omega
    cases A <;> cases A' <;> simp [Builtin.append_, run_underlying ht, sizeOf, typeInfo, hi, Builtin.lenOf, Builtin.firstCells, loadCells, loadCellsFrom, storeCells, Result.andThen] <;> simp at hcc <;> exact fun h => absurd hcc (by omega)
  · obtain ⟨ad, rfl, hc⟩ := hy h0
    obtain ⟨v', w', hrun, ho, hg, _⟩ := run_append_own (P := Tryd.prog) W base 22 ty 9 i _ 1 16 ht hi hz hs hby rfl (by omega) v xs.length (xs.map Value.string) hown ad ys.length c (ys.map Value.string) (by simp) hc (by simp [Value.oneCell']) (by simp only [maxLen]; omega) (by omega) hb
    rw [← List.map_append, ← List.length_append] at ho
    obtain ⟨A', c', rfl⟩ := form ho
    exact ⟨A', c', w', hrun, ho, hg⟩
end
end Go.Proofs.YtcallfgihohldaaDoor.PA
namespace Go.Proofs
section

open Go.Shelf Go.RowKit Go.Maps Go.Sort
def Tryd.keys29_ren : Go.Shelf.Ren := ⟨fun | 7 => 29 | 10 => 46 | n => n, fun | 23 => 53 | 26 => 9 | 3 => 30 | 28 => 64 | 0 => 0 | 27 => 63 | 33 => 34 | 4 => 4 | n => n, fun | n => n⟩
theorem Tryd.keys29 : Go.Proofs.SlLaysZ.n7 Tryd.prog Tryd.keys29_ren := {
  mixed := by kernel_rfl
  f7 := ⟨Tryd.f29.name, by decide, Tryd.func29.trans (congrArg some (by kernel_rfl))⟩
  f10 := ⟨Tryd.f46.name, by decide, Tryd.func46.trans (congrArg some (by kernel_rfl))⟩
  t0 := Tryd.underlying0
  a0 := Tryd.isAgg0
  z0 := Tryd.sizeOf0
  v0 := Tryd.zeroValue0
  t4 := Tryd.underlying4
  a4 := Tryd.isAgg4
  z4 := Tryd.sizeOf4
  v4 := Tryd.zeroValue4
  t23 := Tryd.underlying53
  a23 := Tryd.isAgg53
  z23 := Tryd.sizeOf53
  v23 := Tryd.zeroValue53
  t26 := Tryd.underlying9
  a26 := Tryd.isAgg9
  z26 := Tryd.sizeOf9
  v26 := Tryd.zeroValue9
  t27 := Tryd.underlying63
  a27 := Tryd.isAgg63
  z27 := Tryd.sizeOf63
  v27 := Tryd.zeroValue63
  t28 := Tryd.underlying64
  a28 := Tryd.isAgg64
  z28 := Tryd.sizeOf64
  v28 := Tryd.zeroValue64
  t33 := Tryd.underlying34
  a33 := Tryd.isAgg34
  z33 := Tryd.sizeOf34
  v33 := Tryd.zeroValue34 }
def Tryd.sorted28_ren : Go.Shelf.Ren := ⟨fun | 6 => 28 | 8 => 44 | 9 => 45 | 11 => 54 | 13 => 56 | 12 => 55 | 23 => 69 | 24 => 70 | 14 => 60 | 15 => 61 | 16 => 62 | 17 => 63 | 18 => 64 | 19 => 65 | 20 => 66 | 21 => 67 | 22 => 68 | 25 => 75 | 26 => 76 | 27 => 77 | 28 => 78 | 29 => 79 | 30 => 80 | 31 => 82 | n => n, fun | 26 => 9 | 28 => 64 | 24 => 22 | 0 => 0 | 3 => 3 | 37 => 88 | 48 => 99 | 50 => 101 | 4 => 4 | 40 => 92 | 39 => 91 | 45 => 78 | 5 => 5 | 9 => 9 | 51 => 110 | 55 => 114 | 57 => 116 | 58 => 117 | 33 => 34 | n => n, fun | n => n⟩
theorem Tryd.sorted28 : Go.Proofs.SlLaysZ.n6 Tryd.prog Tryd.sorted28_ren := {
  mixed := by kernel_rfl
  f6 := ⟨Tryd.f28.name, by decide, Tryd.func28.trans (congrArg some (by kernel_rfl))⟩
  f8 := ⟨Tryd.f44.name, by decide, Tryd.func44.trans (congrArg some (by kernel_rfl))⟩
  f11 := ⟨Tryd.f54.name, by decide, Tryd.func54.trans (congrArg some (by kernel_rfl))⟩
  t0 := Tryd.underlying0
  a0 := Tryd.isAgg0
  z0 := Tryd.sizeOf0
  v0 := Tryd.zeroValue0
  t24 := Tryd.underlying22
  a24 := Tryd.isAgg22
  z24 := Tryd.sizeOf22
  v24 := Tryd.zeroValue22
  t26 := Tryd.underlying9
  a26 := Tryd.isAgg9
  z26 := Tryd.sizeOf9
  v26 := Tryd.zeroValue9
  t28 := Tryd.underlying64
  a28 := Tryd.isAgg64
  z28 := Tryd.sizeOf64
  v28 := Tryd.zeroValue64
  i26 := by kernel_rfl }
def Tryd.sort45_ren : Go.Shelf.Ren := ⟨fun | 6 => 45 | 8 => 56 | 9 => 55 | 19 => 69 | 20 => 70 | 21 => 60 | 22 => 61 | 23 => 62 | 24 => 63 | 25 => 64 | 26 => 65 | 27 => 66 | 28 => 67 | 29 => 68 | 36 => 75 | 31 => 76 | 32 => 77 | 37 => 78 | 38 => 79 | 39 => 80 | 41 => 82 | n => n, fun | 27 => 22 | 29 => 9 | 3 => 3 | 32 => 88 | 26 => 22 | 0 => 0 | 44 => 99 | 46 => 101 | 4 => 4 | 36 => 92 | 35 => 91 | 41 => 78 | 5 => 5 | 9 => 9 | 53 => 110 | 57 => 114 | 63 => 116 | 64 => 117 | n => n, fun | n => n⟩
theorem Tryd.sort45 : Go.Proofs.SlLaysM.n6 Tryd.prog Tryd.sort45_ren := {
  mixed := by kernel_rfl
  f6 := ⟨Tryd.f45.name, by decide, Tryd.func45.trans (congrArg some (by kernel_rfl))⟩
  f8 := Tryd.func56.trans (congrArg some (by kernel_rfl))
  f9 := ⟨Tryd.f55.name, by decide, Tryd.func55.trans (congrArg some (by kernel_rfl))⟩
  f19 := Tryd.func69.trans (congrArg some (by kernel_rfl))
  f20 := Tryd.func70.trans (congrArg some (by kernel_rfl))
  f21 := ⟨Tryd.f60.name, by decide, Tryd.func60.trans (congrArg some (by kernel_rfl))⟩
  f22 := ⟨Tryd.f61.name, by decide, Tryd.func61.trans (congrArg some (by kernel_rfl))⟩
  f23 := ⟨Tryd.f62.name, by decide, Tryd.func62.trans (congrArg some (by kernel_rfl))⟩
  f24 := ⟨Tryd.f63.name, by decide, Tryd.func63.trans (congrArg some (by kernel_rfl))⟩
  f25 := ⟨Tryd.f64.name, by decide, Tryd.func64.trans (congrArg some (by kernel_rfl))⟩
  f26 := ⟨Tryd.f65.name, by decide, Tryd.func65.trans (congrArg some (by kernel_rfl))⟩
  f27 := ⟨Tryd.f66.name, by decide, Tryd.func66.trans (congrArg some (by kernel_rfl))⟩
  f28 := ⟨Tryd.f67.name, by decide, Tryd.func67.trans (congrArg some (by kernel_rfl))⟩
  f29 := ⟨Tryd.f68.name, by decide, Tryd.func68.trans (congrArg some (by kernel_rfl))⟩
  f31 := Tryd.func76.trans (congrArg some (by kernel_rfl))
  f32 := Tryd.func77.trans (congrArg some (by kernel_rfl))
  f36 := ⟨Tryd.f75.name, by decide, Tryd.func75.trans (congrArg some (by kernel_rfl))⟩
  f37 := ⟨Tryd.f78.name, by decide, Tryd.func78.trans (congrArg some (by kernel_rfl))⟩
  f38 := ⟨Tryd.f79.name, by decide, Tryd.func79.trans (congrArg some (by kernel_rfl))⟩
  f39 := ⟨Tryd.f80.name, by decide, Tryd.func80.trans (congrArg some (by kernel_rfl))⟩
  f41 := ⟨Tryd.f82.name, by decide, Tryd.func82.trans (congrArg some (by kernel_rfl))⟩
  t0 := Tryd.underlying0
  a0 := Tryd.isAgg0
  z0 := Tryd.sizeOf0
  v0 := Tryd.zeroValue0
  t3 := Tryd.underlying3
  a3 := Tryd.isAgg3
  z3 := Tryd.sizeOf3
  v3 := Tryd.zeroValue3
  t4 := Tryd.underlying4
  a4 := Tryd.isAgg4
  z4 := Tryd.sizeOf4
  v4 := Tryd.zeroValue4
  t5 := Tryd.underlying5
  a5 := Tryd.isAgg5
  z5 := Tryd.sizeOf5
  v5 := Tryd.zeroValue5
  t9 := Tryd.underlying9
  a9 := Tryd.isAgg9
  z9 := Tryd.sizeOf9
  v9 := Tryd.zeroValue9
  t26 := Tryd.underlying22
  a26 := Tryd.isAgg22
  z26 := Tryd.sizeOf22
  v26 := Tryd.zeroValue22
  t27 := Tryd.underlying22
  a27 := Tryd.isAgg22
  z27 := Tryd.sizeOf22
  v27 := Tryd.zeroValue22
  t29 := Tryd.underlying9
  a29 := Tryd.isAgg9
  z29 := Tryd.sizeOf9
  v29 := Tryd.zeroValue9
  t32 := Tryd.underlying88
  a32 := Tryd.isAgg88
  z32 := Tryd.sizeOf88
  v32 := Tryd.zeroValue88
  t35 := Tryd.underlying91
  a35 := Tryd.isAgg91
  z35 := Tryd.sizeOf91
  v35 := Tryd.zeroValue91
  t36 := Tryd.underlying92
  a36 := Tryd.isAgg92
  z36 := Tryd.sizeOf92
  v36 := Tryd.zeroValue92
  t41 := Tryd.underlying78
  a41 := Tryd.isAgg78
  z41 := Tryd.sizeOf78
  v41 := Tryd.zeroValue78
  t44 := Tryd.underlying99
  a44 := Tryd.isAgg99
  z44 := Tryd.sizeOf99
  v44 := Tryd.zeroValue99
  t46 := Tryd.underlying101
  a46 := Tryd.isAgg101
  z46 := Tryd.sizeOf101
  v46 := Tryd.zeroValue101
  t53 := Tryd.underlying110
  a53 := Tryd.isAgg110
  z53 := Tryd.sizeOf110
  v53 := Tryd.zeroValue110
  t57 := Tryd.underlying114
  a57 := Tryd.isAgg114
  z57 := Tryd.sizeOf114
  v57 := Tryd.zeroValue114
  t63 := Tryd.underlying116
  a63 := Tryd.isAgg116
  z63 := Tryd.sizeOf116
  v63 := Tryd.zeroValue116
  t64 := Tryd.underlying117
  a64 := Tryd.isAgg117
  z64 := Tryd.sizeOf117
  v64 := Tryd.zeroValue117 }
theorem Tryd.sorts28 (m : Nat) : AnyZ.SortsIn Tryd.prog Tryd.sorted28_ren Fence.wide m :=
  ⟨fun blk off cap ss W hH hblk hsz => callsIn_wide.2 (AnyM.slices_Sort_string Tryd.sort45 blk off cap ss W hH hblk hsz),
   fun p cap W => callsIn_wide.2 (AnyM.slices_Sort_string_none Tryd.sort45 p cap W)⟩
theorem Tryd.maps_Keys_29 (mb : Option Nat) (W : World) : CallsIn Fence.wide 5 Tryd.prog 29 #[.map mb] W fun e w' => e = .returned (.func (.func 46) #[] #[.pointer (some ⟨W.heap.size, 0, none⟩)]) ∧ w' = W.alloc (.cells #[.map mb] 53) :=
  AnyZ.keys_in Tryd.keys29 Fence.wide 5 trivial rfl mb W
set_option maxHeartbeats 1000000 in
theorem Tryd.slices_Sorted_keys_28_29 {H : Type} (b nn : Nat) (D0 : DataW H) (R : Value → Option (DataW H × List MemPlace)) (w : World) (hown : w.ownsMap Tryd.prog 9 R b nn D0) (hmax : Maps.size D0 ≤ maxLen) (hbytes : Maps.size D0 * 16 ≤ 140737488355328) :
    CallsIn Fence.wide 5 Tryd.prog 28 #[.func (.func 46) #[] #[.pointer (some ⟨w.heap.size, 0, none⟩)]] (w.alloc (.cells #[.map (some b)] 53)) fun e w' => ∃ (v : Value) (ss : List (List UInt8)), e = .returned v ∧ ss.Perm (strKeys D0) ∧
      w'.ownsRow (w.alloc (.cells #[.map (some b)] 53)).heap.size 9 1 v ss.length ((ss.mergeSort (fun x y => decide (x ≤ y))).map encStr) ∧ (v = .slice none 0 0 ↔ ss = []) ∧ Below (w.alloc (.cells #[.map (some b)] 53)).heap.size (w.alloc (.cells #[.map (some b)] 53)) w' := by
  have hbl := hown.lt
  have hseq : SeqGives Fence.wide 2 Tryd.prog 46 #[.pointer (some ⟨w.heap.size, 0, none⟩)] encStr (fun ss => ss.Perm (strKeys D0)) (Maps.size D0) (w.alloc (.cells #[.map (some b)] 53)) :=
    AnyZ.keys_gives (ρ := Tryd.keys29_ren) { Tryd.keys29 with } Fence.wide _ trivial rfl (by omega) w.heap.size b nn D0 _ (by simp) (by simp) (by
      obtain ⟨es, clock, hb, Ft, hs, hD⟩ := hown
      exact ⟨es, clock, (Below.heap_alloc _ _ b hbl).trans hb, Ft, hs, hD⟩)
  exact AnyZ.sorted_in Tryd.sorted28 Fence.wide 5 trivial trivial trivial trivial rfl (by omega) (Tryd.sorts28 _) (enters_of Tryd.func45 (by kernel_rfl) rfl) 46 #[.pointer (some ⟨w.heap.size, 0, none⟩)] trivial (enters_of Tryd.func46 (by kernel_rfl) rfl) _ _ hmax hbytes _ hseq
end
end Go.Proofs
namespace Go.Proofs.YtcallfgihohldaaDoor.PA
section

open Go.RowKit Go.Proofs.YtcallfgihohldaaDoorW.PrintWords Go.Proofs.YtcallfgihohldaaDoorW.PrintLast Go.Proofs.YtcallfgihohldaaDoorW.PrintMore
attribute [local go_sem] max2_int min2_int max_two min_two max_three min_three max_four min_four
set_option linter.unusedVariables false
set_option linter.unusedSimpArgs false
structure KeysOf (m : ByteArray → Option (List Int)) (L : List ByteArray) : Prop where
  nodup : L.Nodup
  sorted : L.Pairwise (fun a b => a.data.toList ≤ b.data.toList)
  mem : ∀ k : ByteArray, k.size ≤ maxLen → (k ∈ L ↔ (m k).isSome = true)
  size : ∀ k ∈ L, k.size ≤ maxLen
theorem ba_inj {a b : ByteArray} (h : a.data.toList = b.data.toList) : a = b := by
  obtain ⟨⟨a⟩⟩ := a
  obtain ⟨⟨b⟩⟩ := b
  simp only at h
  rw [h]
theorem KeysOf.eq {m : ByteArray → Option (List Int)} {L L' : List ByteArray} (h : KeysOf m L) (h' : KeysOf m L') : L = L' := by
  refine List.Perm.eq_of_pairwise (le := fun a b => a.data.toList ≤ b.data.toList) (fun a b _ _ h1 h2 => ba_inj (List.le_antisymm h1 h2)) h.sorted h'.sorted ((List.perm_ext_iff_of_nodup h.nodup h'.nodup).2 fun k => ?_)
  constructor
  · intro hk
    have := h.size k hk
    exact (h'.mem k this).2 ((h.mem k this).1 hk)
  · intro hk
    have := h'.size k hk
    exact (h.mem k this).2 ((h'.mem k this).1 hk)
theorem keys_of {W : World} {F : Nat → Prop} {bm n : Nat} {m : ByteArray → Option (List Int)} {D : DataW Value} (hown : W.ownsMap Tryd.prog 9 tokR bm n D) (hk : MapK W F D m) {ss : List (List UInt8)} (hp : ss.Perm (strKeys D)) :
    KeysOf m ((ss.mergeSort (fun x y => decide (x ≤ y))).map (fun x => (⟨x.toArray⟩ : ByteArray))) := by
  have hle := strKeys_le hown Tryd.underlying9
  obtain ⟨es, hD, hpw⟩ := hown.tidy law9
  obtain ⟨es', hD', hko⟩ := hown.keysOf
  have e : es = es' := by rw [hD] at hD'; simpa using hD'
  subst e
  have hstr : ∀ p ∈ es, ∃ x, p.1 = .string x := fun p hp => by
    obtain ⟨v, hv⟩ := hko p hp
    obtain ⟨x, _, hx, _⟩ := Maps.keyOf_str Tryd.underlying9 hv
    exact ⟨x, hx⟩
  have hmem : ∀ x, x ∈ strKeys D ↔ Go.Maps.has D (.string x) = true := fun x => by
    rw [hD, Go.Maps.has_eq, List.any_eq_true]
    show x ∈ es.map (fun p => strOf p.1) ↔ _
    rw [List.mem_map]
    constructor
    · rintro ⟨p, hp', rfl⟩
      obtain ⟨a, ha⟩ := hstr p hp'
      exact ⟨p, hp', by rw [ha]; simp [Lit.sameKey, strOf]⟩
    · rintro ⟨p, hp', hs⟩
      obtain ⟨a, ha⟩ := hstr p hp'
      rw [ha] at hs
      exact ⟨p, hp', by rw [ha]; simpa [Lit.sameKey, strOf] using hs⟩
  have hnd : (strKeys D).Nodup := by
    rw [hD]
    show (es.map fun p => strOf p.1).Nodup
    refine List.pairwise_map.2 (hpw.imp_of_mem fun {p q} hp' hq' hne e => hne ?_)
    obtain ⟨a, ha⟩ := hstr p hp'
    obtain ⟨b, hb⟩ := hstr q hq'
    rw [ha, hb] at e ⊢
    exact congrArg _ e
  have hms := List.mergeSort_perm ss (fun x y => decide (x ≤ y))
  have tr : ∀ a b c : List UInt8, decide (a ≤ b) = true → decide (b ≤ c) = true → decide (a ≤ c) = true := fun a b c h1 h2 => by simp only [decide_eq_true_eq] at *; exact List.le_trans h1 h2
  have tot : ∀ a b : List UInt8, (decide (a ≤ b) || decide (b ≤ a)) = true := fun a b => by simp only [Bool.or_eq_true, decide_eq_true_eq]; exact List.le_total a b
  have hkm : ∀ k : ByteArray, k ∈ (ss.mergeSort (fun x y => decide (x ≤ y))).map (fun x => (⟨x.toArray⟩ : ByteArray)) ↔ k.data.toList ∈ strKeys D := fun k => by
    rw [List.mem_map]
    constructor
    · rintro ⟨x, hx, rfl⟩
      simpa using hp.mem_iff.1 (hms.mem_iff.1 hx)
    · intro h
      exact ⟨_, hms.mem_iff.2 (hp.mem_iff.2 h), ba_inj (by simp)⟩
  refine ⟨?_, ?_, fun k hkl => ?_, fun k hk' => ?_⟩
  · refine List.pairwise_map.2 ((hms.nodup_iff.2 (hp.nodup_iff.2 hnd)).imp fun {a b} hne e => hne ?_)
    have := congrArg (fun b : ByteArray => b.data.toList) e
    simpa using this
  · refine List.pairwise_map.2 ((List.pairwise_mergeSort tr tot ss).imp fun {a b} h => ?_)
    simpa using h
  · rw [hkm, hmem, ← (hk k hkl).1]
    rfl
  · exact hle _ ((hkm k).1 hk')
set_option maxHeartbeats 2000000 in
set_option maxRecDepth 100000 in
theorem list_calls {W : World} {F : Nat → Prop} {g n : Nat} {S : BSt} (h : BAt W F g n S) (hn : n ≤ 1000000) :
    Calls Tryd.prog 21 #[.pointer (some ⟨g, 0, none⟩)] W fun e W' => ∃ v L, e = .returned (.tuple #[v, .int .i64 (if S.o = 0 then 0 else 15)]) ∧ W'.ownsRow W.heap.size 9 1 v (L : List ByteArray).length (L.map Value.string) ∧ (S.o = 0 → KeysOf S.m L) ∧ (S.o ≠ 0 → L = []) ∧ BAt W' F g n S.next ∧ Went F F W W' := by
  have Xh := Aside0.mk h
  have Xn := Aside0.mk hn
  clear h hn
  obtain ⟨o, ho⟩ : ∃ o, o = S.o := ⟨_, rfl⟩
  obtain ⟨S1, hS1⟩ : ∃ S1, S1 = S.next := ⟨_, rfl⟩
  have hm : S1.m = S.m := by rw [hS1]; rfl
  have hK : Calls Tryd.prog 24 #[.pointer (some ⟨g, 0, none⟩)] W fun e W' => e = .returned (.int .i64 o) ∧ BAt W' F g n S1 ∧ Went F F W W' := by
    rw [hS1, ho]
    refine (take_calls Xh.out).mono ?_
    rintro e w2 ⟨rfl, hb2, hg2⟩
    obtain ⟨bm, vo, hb, hFg, _⟩ := Xh.out
    exact ⟨rfl, hb2, ⟨Chg.grown hg2 hFg, fun _ h => .inl h⟩⟩
  have XK := Aside0.mk hK
  have Xm := Aside0.mk hm
  rw [← ho, ← hS1, ← hm]
  clear hK hS1 ho hm
  by_cases h0 : o = 0
  · rw [if_pos h0]
    have hb0 : (o != 0) = false := by simp [h0]
    have X0 := Aside0.mk h0
    clear h0
    go_enter Tryd.func21, Tryd.ntmps21
    go_wp2_with (first | (go_at_call 24; refine XK.out.mono ?_; rintro e w2 ⟨rfl, hb2, hW2⟩; have XW := Aside0.mk hW2; have Xb2 := Aside0.mk hb2; obtain ⟨bm, vo, hb, hFg, ⟨D, hown, hbF, hk⟩, hO⟩ := hb2; have c0 : w2.cell? ⟨g, 0, none⟩ = some (.map (some bm)) := blk_cell hb 0; have Xown := Aside0.mk hown; have Xk := Aside0.mk hk; clear hb hFg hown hbF hk hO hW2) | (go_at_call 29; refine (callsIn_wide.1 (Tryd.maps_Keys_29 _ _)).mono ?_; rintro e w' ⟨rfl, rfl⟩) | fail)
    refine (callsIn_wide.1 (Tryd.slices_Sorted_keys_28_29 bm n D tokR w2 Xown.out (by have := Xown.out.size_le; have := Xn.out; simp only [maxLen]; omega) (by have := Xown.out.size_le; have := Xn.out; omega))).mono ?_
    rintro e w3 ⟨v, ss, rfl, hp, hrow, _, hB3⟩
    have hB : Below w2.heap.size w2 w3 := (below_alloc (Below.refl _ _) _).trans (hB3.mono (by simp))
    have XR := Aside0.mk (And.intro hp (And.intro hrow hB))
    clear hp hrow hB3 hB
    go_wp2_with fail
    go_ret2
    refine ⟨_, (ss.mergeSort (fun x y => decide (x ≤ y))).map (fun x => (⟨x.toArray⟩ : ByteArray)), rfl, ?_, fun _ => keys_of Xown.out Xk.out XR.out.1, fun h => absurd X0.out h, Xb2.out.below XR.out.2.2, XW.out.trans (Went.of XR.out.2.2)⟩
    have h1 := own_weaken XR.out.2.1 (show W.heap.size ≤ _ by have := XW.out.chg.size; simp; omega)
    rw [List.length_map, List.length_mergeSort, List.map_map]
    exact h1
  · rw [if_neg h0]
    have hb0 : (o != 0) = true := bne_iff_ne.2 h0
    have X0 := Aside0.mk h0
    clear h0
    go_enter Tryd.func21, Tryd.ntmps21
    go_wp2_with (first | (go_at_call 24; refine XK.out.mono ?_; rintro e w2 ⟨rfl, hb2, hW2⟩; have XW := Aside0.mk hW2; have Xb2 := Aside0.mk hb2; clear hb2 hW2) | fail)
    go_ret2
    exact ⟨_, [], rfl, World.ownsRow_nil _ _ _ _, fun h => absurd h X0.out, fun _ => rfl, Xb2.out, XW.out⟩
end
end Go.Proofs.YtcallfgihohldaaDoor.PA
namespace Go.Proofs.YtcallfgihohldaaDoor.PA
section

open Go.RowKit Go.Proofs.YtcallfgihohldaaDoorW.PrintWords Go.Proofs.YtcallfgihohldaaDoorW.PrintLast Go.Proofs.YtcallfgihohldaaDoorW.PrintMore
attribute [local go_sem] max2_int min2_int max_two min_two max_three min_three max_four min_four
set_option linter.unusedVariables false
set_option linter.unusedSimpArgs false
theorem C_chg2 {k : IntKind} {W W' : World} {F : Nat → Prop} {A : Option Addr} {n : Nat} {l : List Int} (hc : Chg F W W') (hA : 0 < n → ∀ ad, A = some ad → ¬ F ad.block) (h : (Kd.int k).C W A n l) : (Kd.int k).C W' A n l :=
  ⟨h.1, h.2.1, fun h0 => by
    obtain ⟨ad, e, hh⟩ := h.2.2 h0
    refine ⟨ad, e, fun j p hj => ?_⟩
    obtain ⟨cs, h1, h2, h3⟩ := hh j p hj
    refine ⟨cs, h1, h2, fun q u hu => ?_⟩
    have h4 := h3 q u hu
    have h5 := cell_blk_lt h4
    exact (cell_of_blk (hc.block _ h5 (by rw [add_block]; exact hA h0 ad e))).trans h4⟩
theorem put_name {S : BSt} {nm : ByteArray} {b : List Int} (h : nameB nm = false) : S.put nm b = (S, 6) := by unfold BSt.put; rw [h]; rfl
theorem del_name {S : BSt} {nm : ByteArray} (h : nameB nm = false) : S.del nm = (S, 6) := by unfold BSt.del; rw [h]; rfl
/-- 'append([]int{}, l...)'. -/
theorem copy_i64 (W : World) (A : Option Addr) (c : Nat) (l : List Int) (hr : (Kd.int .i64).C W A l.length l) (hl : l.length ≤ 10000000) :
    ∃ A' c' W', (Builtin.append_ #[23, 23] 23 #[.slice (some ⟨W.heap.size, 0, none⟩) 0 0, .slice A l.length c]).run Tryd.prog (W.alloc (.cells #[] 3)) = .ok (.slice A' l.length c') W' ∧ (Kd.int .i64).C W' A' l.length l ∧ Below W.heap.size W W' ∧ (∀ ad, A' = some ad → ∃ q cs, ad = ⟨q, 0, none⟩ ∧ W.heap.size ≤ q ∧ W'.heap[q]? = some (.cells cs 3 (0, 0))) := by
  obtain ⟨v', W', hrun, ⟨q, c', cs, rfl, h1, h2, h3, h4⟩, hB⟩ := copy_run 23 3 (.int .i64 0) 8 (by kernel_rfl) info3' rfl 23 W A c (l.map (fun x => Value.int .i64 x)) (fun h0 => by
    rw [List.length_map] at h0
    obtain ⟨ad, e, _⟩ := hr.2.2 h0
    subst e
    exact ⟨ad, rfl, C_i64 hr⟩) (by rw [List.length_map]; simp only [maxLen]; omega) (by rw [List.length_map]; omega)
  rw [List.length_map] at hrun
  refine ⟨_, c', W', hrun, ⟨rfl, by omega, fun _ => ⟨_, rfl, fun j p hj => ⟨[.int .i64 p], rfl, rfl, fun r u hu => ?_⟩⟩⟩, hB, fun ad e => ⟨q, cs, (Option.some.inj e).symm, h2, h3⟩⟩
  cases r with
  | zero =>
    simp only [List.getElem?_cons_zero, Option.some.injEq] at hu
    subst hu
    rw [add_plain, blk_cell h3, show j * (Kd.int .i64).sz + 0 = j from Nat.mul_one j]
    exact h4 j _ (by rw [List.getElem?_map, hj]; rfl)
  | succ r => simp at hu
end
end Go.Proofs.YtcallfgihohldaaDoor.PA
namespace Go.Proofs.YtcallfgihohldaaDoor.PA
section

open Go.RowKit Go.Proofs.YtcallfgihohldaaDoorW.PrintWords Go.Proofs.YtcallfgihohldaaDoorW.PrintLast Go.Proofs.YtcallfgihohldaaDoorW.PrintMore
attribute [local go_sem] max2_int min2_int max_two min_two max_three min_three max_four min_four
set_option linter.unusedVariables false
set_option linter.unusedSimpArgs false
structure RSt where
  pl : List (ByteArray × ByteArray)
  ver : Int
  root : ByteArray
  outs : List Int
  calls : Int
def RSt.o (S : RSt) : Int := match S.outs with
  | [] => 0
  | x :: _ => pickO x
def RSt.next (S : RSt) : RSt := { S with outs := S.outs.tail, calls := wrap64 (S.calls + 1) }
/-- A list of strings of one's own, from its block's head on. -/
def StrAt (W : World) (G : Nat → Prop) (v : Value) (L : List ByteArray) : Prop :=
  (v = .slice none 0 0 ∧ L = []) ∨ ∃ q c cs, v = .slice (some ⟨q, 0, none⟩) L.length c ∧ (L.length ≤ c ∧ c ≤ maxLen) ∧ G q ∧ W.heap[q]? = some (.cells cs 9 (0, 0)) ∧ ∀ i (h : i < L.length), cs[i]? = some (.string L[i])
def RAt (W : World) (G : Nat → Prop) (r : Nat) (R : RSt) : Prop :=
  ∃ v0 v1 vo, W.heap[r]? = some (.cells #[v0, v1, .int .i64 R.ver, .string R.root, vo, .int .i64 R.calls] 48 (0, 0)) ∧ G r ∧ StrAt W G v0 (R.pl.map (·.1)) ∧ StrAt W G v1 (R.pl.map (·.2)) ∧ OutAt W G vo R.outs ∧ (∀ k, v0.ownBlock = some k → v1.ownBlock ≠ some k)
theorem StrAt.move {W W' : World} {G G' : Nat → Prop} {v : Value} {L : List ByteArray} (h : StrAt W G v L) (hm : ∀ k cs, G k → W.heap[k]? = some (.cells cs 9 (0, 0)) → W'.heap[k]? = W.heap[k]?) (hG : ∀ k, G k → k < W.heap.size → G' k) : StrAt W' G' v L := by
  rcases h with h | ⟨q, c, cs, h1, h2, h3, h4, h5⟩
  · exact .inl h
  · exact .inr ⟨q, c, cs, h1, h2, hG q h3 (blk_lt h4), (hm q cs h3 h4).trans h4, h5⟩
theorem StrAt.keep {W W' : World} {G : Nat → Prop} {v : Value} {L : List ByteArray} (h : StrAt W G v L) {g t : Nat} {cs : Array Value} {fr : Nat × Nat} (hg : W.heap[g]? = some (.cells cs t fr)) (ht : t ≠ 9) (hs : ∀ k, k < W.heap.size → k ≠ g → W'.heap[k]? = W.heap[k]?) : StrAt W' G v L :=
  h.move (fun k ds _ hb => hs k (blk_lt hb) (fun e => by
    subst e
    rw [hg] at hb
    injection hb with hb; injection hb with _ h6
    exact ht h6)) (fun _ h _ => h)
theorem StrAt.form {W : World} {G : Nat → Prop} {v : Value} {L : List ByteArray} (h : StrAt W G v L) : ∃ A c, v = .slice A L.length c ∧ L.length ≤ c ∧ Kd.C Kd.string W A L.length L := by
  rcases h with ⟨rfl, rfl⟩ | ⟨q, c, cs, rfl, h2, h3, h4, h5⟩
  · exact ⟨none, 0, rfl, Nat.le_refl _, ⟨rfl, by simp, fun h => absurd h (by simp)⟩⟩
  · refine ⟨_, c, rfl, h2.1, ⟨rfl, by have := h2.1; have := h2.2; simp only [maxLen] at *; omega, fun _ => ⟨_, rfl, fun j p hj => ⟨[.string p], rfl, rfl, fun q' u hu => ?_⟩⟩⟩⟩
    obtain ⟨hjl, rfl⟩ := List.getElem?_eq_some_iff.1 hj
    cases q' with
    | zero =>
      simp only [List.getElem?_cons_zero, Option.some.injEq] at hu
      subst hu
      rw [add_plain, blk_cell h4, show j * Kd.string.sz + 0 = j from Nat.mul_one j]
      exact h5 j hjl
    | succ q' => simp at hu
theorem RAt.move {W W' : World} {G G' : Nat → Prop} {r : Nat} {R : RSt} (h : RAt W G r R) (hm : ∀ k, G k → k < W.heap.size → W'.heap[k]? = W.heap[k]?) (hG : ∀ k, G k → k < W.heap.size → G' k) : RAt W' G' r R := by
  obtain ⟨v0, v1, vo, hb, hbG, h0, h1, hO, hne⟩ := h
  exact ⟨v0, v1, vo, (hm r hbG (blk_lt hb)).trans hb, hG r hbG (blk_lt hb), h0.move (fun k cs hk h => hm k hk (blk_lt h)) hG, h1.move (fun k cs hk h => hm k hk (blk_lt h)) hG, hO.move (fun k cs hk h => hm k hk (blk_lt h)) hG, hne⟩
theorem RAt.below {W W' : World} {G : Nat → Prop} {r : Nat} {R : RSt} (h : RAt W G r R) (hb : Below W.heap.size W W') : RAt W' G r R := h.move (fun k _ hk => hb.block k hk) (fun _ h _ => h)
set_option maxHeartbeats 1000000 in
theorem rtake_calls {W : World} {G : Nat → Prop} {r : Nat} {S : RSt} (h : RAt W G r S) :
    Calls Tryd.prog 47 #[.pointer (some ⟨r, 0, none⟩)] W fun e W' => e = .returned (.int .i64 S.o) ∧ RAt W' G r S.next ∧ W.grownBy W' (some r) := by
  obtain ⟨v0, v1, vo, hb, hG, h0, h1, hO, hne⟩ := h
  have c4 : W.cell? ⟨r, 4, none⟩ = some vo := blk_cell hb 4
  have c5 : W.cell? ⟨r, 5, none⟩ = some (.int .i64 S.calls) := blk_cell hb 5
  have f4 : W.frozen? ⟨r, 4, none⟩ = false := blk_frozen hb 4
  have f5 : W.frozen? ⟨r, 5, none⟩ = false := blk_frozen hb 5
  have hw : IntKind.i64.wrap (S.calls + 1) = wrap64 (S.calls + 1) := by unfold wrap64; exact IntKind.wrap_i64 _
  have HB := Aside0.mk hb
  have HG := Aside0.mk hG
  have H0 := Aside0.mk h0
  have H1 := Aside0.mk h1
  have HO := Aside0.mk hO
  have HNE := Aside0.mk hne
  clear hb hG h0 h1 hO hne
  rcases hs : S.outs with _ | ⟨x, l⟩
  · have HS := Aside0.mk hs
    rw [hs] at HO
    obtain ⟨A, c, rfl, _⟩ := HO.out.form
    replace c4 : W.cell? ⟨r, 4, none⟩ = some (.slice A 0 c) := c4
    clear hs
    go_enter Tryd.func47, Tryd.ntmps47
    go_wp2_with fail
    go_ret
    have hg := grown_one W r 5 (.int .i64 (wrap64 (S.calls + 1)))
    have hk : ∀ k, k < W.heap.size → k ≠ r → (W.setCell ⟨r, 5, none⟩ (.int .i64 (wrap64 (S.calls + 1)))).heap[k]? = W.heap[k]? := fun k hl hn => hg.block k hl (fun e => hn (Option.some.inj e))
    have ho : S.o = 0 := by unfold RSt.o; rw [HS.out]
    refine ⟨by rw [ho]; rfl, ⟨v0, v1, _, heap_setCell_same W r 5 _ 48 (.int .i64 (wrap64 (S.calls + 1))) HB.out, HG.out, H0.out.keep HB.out (by decide) hk, H1.out.keep HB.out (by decide) hk, ?_, HNE.out⟩, hg⟩
    unfold RSt.next
    rw [HS.out]
    exact HO.out.keep HB.out (by decide) hk
  · rw [hs] at HO
    have HS := Aside0.mk hs
    clear hs
    obtain ⟨q, off, c, rfl, hlc, ⟨ds, hq, hx⟩, hR⟩ := HO.out.head
    have hqg : q ≠ r := fun e => by
      subst e
      have := HB.out
      rw [hq] at this
      injection this with this; injection this with _ h6
      cases h6
    have x0 : W.cell? ⟨q, off, none⟩ = some (.int .i64 x) := (blk_cell hq off).trans hx
    have HRR := Aside0.mk hR
    have HQ := Aside0.mk hqg
    have hw1 : IntKind.i64.wrap (x.tmod 3 + 3) = wrap64 (x.tmod 3 + 3) := by unfold wrap64; exact IntKind.wrap_i64 _
    clear hR hq hx
    have ho : S.o = (wrap64 (x.tmod 3 + 3)).tmod 3 := by unfold RSt.o; rw [HS.out]; rfl
    have hn : S.next = { S with outs := l, calls := wrap64 (S.calls + 1) } := by unfold RSt.next; rw [HS.out]; rfl
    rw [ho, hn]
    clear ho hn
    by_cases hc : c = 1
    · subst hc
      rw [if_pos rfl] at HRR
      obtain rfl : l = [] := List.eq_nil_of_length_eq_zero (by omega)
      replace HRR : Aside0 (OutAt W G (.slice (some ⟨q, off, none⟩) 0 0) []) := HRR
      replace c4 : W.cell? ⟨r, 4, none⟩ = some (.slice (some ⟨q, off, none⟩) 1 1) := c4
      go_enter Tryd.func47, Tryd.ntmps47
      go_wp2_with fail
      go_ret
      have g1 := grown_one W r 5 (.int .i64 (wrap64 (S.calls + 1)))
      have g2 := grown_one (W.setCell ⟨r, 5, none⟩ (.int .i64 (wrap64 (S.calls + 1)))) r 4 (.slice (some ⟨q, off, none⟩) 0 0)
      have hg := g1.trans g2
      have hk : ∀ k, k < W.heap.size → k ≠ r → _ = W.heap[k]? := fun k hl hn => hg.block k hl (fun e => hn (Option.some.inj e))
      exact ⟨rfl, ⟨v0, v1, _, heap_setCell_same _ r 4 _ 48 _ (heap_setCell_same W r 5 _ 48 (.int .i64 (wrap64 (S.calls + 1))) HB.out), HG.out, H0.out.keep HB.out (by decide) hk, H1.out.keep HB.out (by decide) hk, HRR.out.keep HB.out (by decide) hk, HNE.out⟩, hg⟩
    · rw [if_neg hc] at HRR
      go_enter Tryd.func47, Tryd.ntmps47
      go_wp2_with fail
      go_ret
      have g1 := grown_one W r 5 (.int .i64 (wrap64 (S.calls + 1)))
      have g2 := grown_one (W.setCell ⟨r, 5, none⟩ (.int .i64 (wrap64 (S.calls + 1)))) r 4 (.slice (some ⟨q, off + 1, none⟩) l.length (c - 1))
      have hg := g1.trans g2
      have hk : ∀ k, k < W.heap.size → k ≠ r → _ = W.heap[k]? := fun k hl hn => hg.block k hl (fun e => hn (Option.some.inj e))
      exact ⟨rfl, ⟨v0, v1, _, heap_setCell_same _ r 4 _ 48 _ (heap_setCell_same W r 5 _ 48 (.int .i64 (wrap64 (S.calls + 1))) HB.out), HG.out, H0.out.keep HB.out (by decide) hk, H1.out.keep HB.out (by decide) hk, HRR.out.keep HB.out (by decide) hk, HNE.out⟩, hg⟩
end
end Go.Proofs.YtcallfgihohldaaDoor.PA
namespace Go.Proofs.YtcallfgihohldaaDoor.PA
section

open Go.RowKit Go.Proofs.YtcallfgihohldaaDoorW.PrintWords Go.Proofs.YtcallfgihohldaaDoorW.PrintLast Go.Proofs.YtcallfgihohldaaDoorW.PrintMore
attribute [local go_sem] pr_leq pr_geq pr_gtr max2_int min2_int max_two min_two max_three min_three max_four min_four
set_option linter.unusedVariables false
set_option linter.unusedSimpArgs false
mutual
def cisternref02_Name.j0 : Nat → ByteArray → Bool → Option (Bool)
  | 0, _, _ => none
  | k + 1, x0, x11 => if x11 = true then (some false) else (cisternref02_Name.l0 k x0 0)
def cisternref02_Name.l0 : Nat → ByteArray → Int → Option (Bool)
  | 0, _, _ => none
  | k + 1, x0, x3 => if x3 < (x0.size : Int) then (if 0 ≤ x3 then (if (bt x0 x3) < 97 then (if (bt x0 x3) < 48 then (if (bt x0 x3) = 45 then (cisternref02_Name.l0 k x0 (wrap64 (x3 + 1))) else (some false)) else (if (bt x0 x3) > 57 then (if (bt x0 x3) = 45 then (cisternref02_Name.l0 k x0 (wrap64 (x3 + 1))) else (some false)) else (cisternref02_Name.l0 k x0 (wrap64 (x3 + 1))))) else (if (bt x0 x3) > 122 then (if (bt x0 x3) < 48 then (if (bt x0 x3) = 45 then (cisternref02_Name.l0 k x0 (wrap64 (x3 + 1))) else (some false)) else (if (bt x0 x3) > 57 then (if (bt x0 x3) = 45 then (cisternref02_Name.l0 k x0 (wrap64 (x3 + 1))) else (some false)) else (cisternref02_Name.l0 k x0 (wrap64 (x3 + 1))))) else (cisternref02_Name.l0 k x0 (wrap64 (x3 + 1))))) else (none)) else (some true)
end
def cisternref02_Name.f (k : Nat) (a0 : ByteArray) : Option (Bool) := if a0.toList = ([] : List UInt8) then (cisternref02_Name.j0 k a0 true) else (cisternref02_Name.j0 k a0 (decide ((a0.size : Int) > 40)))
set_option maxHeartbeats 8000000 in
set_option maxRecDepth 100000 in
theorem cisternref02_Name.calls (k : Nat) (a0 : ByteArray) (r : Bool) (w : World) (h : cisternref02_Name.f k a0 = some r) :
    Calls Tryd.prog 16 #[.string a0] w fun e w' => e = .returned (.bool r) ∧ Drawn0 w w' := by
  have H : (if a0.toList = ([] : List UInt8) then (cisternref02_Name.j0 k a0 true) else (cisternref02_Name.j0 k a0 (decide ((a0.size : Int) > 40)))) = some r := h
  clear h
  have HC2 := Aside0.mk H
  clear H
  go_enter Tryd.func16, Tryd.ntmps16
  go_upto_region 1 with (fail)
  go_cut [11] (fun v11 wc => ∃ (kq : Nat) (x11_1 : Bool), v11 = .bool x11_1 ∧ Aside0 (cisternref02_Name.j0 kq a0 x11_1 = some r) ∧ Aside0 (kq ≤ k) ∧ Drawn0 w wc)
  case first =>
    have H := HC2.out
    clear HC2
    by_cases c3 : a0.toList = ([] : List UInt8)
    · rw [if_pos c3] at H
      have c3b0 : (a0.toList == ([] : List UInt8)) = true := beq_iff_eq.mpr c3
      have c3b1 : (a0.toList != ([] : List UInt8)) = false := bne_eq_false_iff_eq.mpr c3
      clear c3
      (first | rw [c3b0] | (simp only [i64_w, i32_w]; rw [c3b0]) | skip)
      have H' := Aside0.mk H
      clear H
      go_wp2
      go_meet
      case rel => exact ⟨_, (true), (by first | rfl | (simp; done) | (simp [*]; done)), H', ⟨by first | omega | exact Nat.le_refl _⟩, by repeat (first | exact Drawn0.refl _ | apply Drawn0.step)⟩
    · rw [if_neg c3] at H
      have c3b0 : (a0.toList == ([] : List UInt8)) = false := beq_eq_false_iff_ne.mpr c3
      have c3b1 : (a0.toList != ([] : List UInt8)) = true := bne_iff_ne.mpr c3
      (first | rw [c3b0] | (simp only [i64_w, i32_w]; rw [c3b0]) | skip)
      have H' := Aside0.mk H
      clear H
      go_wp2
      go_meet
      case rel => exact ⟨_, (decide ((a0.size : Int) > 40)), (by first | rfl | (simp; done) | (simp [*]; done)), H', ⟨by first | omega | exact Nat.le_refl _⟩, by repeat (first | exact Drawn0.refl _ | apply Drawn0.step)⟩
  case rest =>
    clear HC2
    try clear c1
    try clear p2
    try clear c3
    try clear c3b0
    try clear c3b1
    obtain ⟨kq, x11_1, rfl, HA, HJ1, ⟨mc1, rfl⟩⟩ := hcut
    cases kq with
    | zero => exact absurd HA.out (by simp [cisternref02_Name.j0])
    | succ kj1 =>
      have H := HA.out
      clear HA
      simp only [cisternref02_Name.j0] at H
      by_cases c4 : x11_1 = true
      · subst c4
        have H1 : (some false) = some r := by rw [if_pos rfl] at H; exact H
        clear H
        have H := H1
        clear H1
        obtain rfl := Option.some.inj H
        go_wp2
        go_ret
        exact ⟨by first | rfl | (simp; done) | (simp [*]; done), by repeat (first | exact Drawn0.refl _ | apply Drawn0.step)⟩
      · replace c4 := Bool.eq_false_iff.mpr c4
        subst c4
        have H1 : (cisternref02_Name.l0 kj1 a0 0) = some r := by rw [if_neg (show ¬ (false = true) by decide)] at H; exact H
        clear H
        have H := H1
        clear H1
        have H' := Aside0.mk H
        clear H
        go_wp2
        go_loopg [3] kj1 (fun kq v3 w' => ∃ (x3_2 : Int), v3 = .int .i64 x3_2 ∧ Aside0 (cisternref02_Name.l0 kq a0 x3_2 = some r) ∧ Aside0 (kq ≤ kj1) ∧ Drawn0 w w')
        case atStart => exact ⟨(0), (by first | rfl | (simp; done) | (simp [*]; done)), H', ⟨Nat.le_refl _⟩, by repeat (first | exact Drawn0.refl _ | apply Drawn0.step)⟩
        case round =>
          clear H'
          try clear c1
          try clear p2
          try clear c3
          try clear c3b0
          try clear c3b1
          try clear c4
          try clear p2
          obtain ⟨x3_2, rfl, HA, HK2, ⟨m2, rfl⟩⟩ := hrel
          cases gk with
          | zero => exact absurd HA.out (by simp [cisternref02_Name.l0])
          | succ k2 =>
            have H := HA.out
            clear HA
            simp only [cisternref02_Name.l0] at H
            by_cases c5 : x3_2 < (a0.size : Int)
            · rw [if_pos c5] at H
              have c5b0 : decide (x3_2 < (a0.size : Int)) = true := decide_eq_true c5
              clear c5
              by_cases c6 : 0 ≤ x3_2
              · rw [if_pos c6] at H
                have c6b0 : decide (0 ≤ x3_2) = true := decide_eq_true c6
                clear c6
                by_cases c8 : (bt a0 x3_2) < 97
                · rw [if_pos c8] at H
                  have c8b0 : decide ((bt a0 x3_2) < 97) = true := decide_eq_true c8
                  clear c8
                  by_cases c9 : (bt a0 x3_2) < 48
                  · rw [if_pos c9] at H
                    have c9b0 : decide ((bt a0 x3_2) < 48) = true := decide_eq_true c9
                    clear c9
                    by_cases c10 : (bt a0 x3_2) = 45
                    · rw [if_pos c10] at H
                      have c10b0 : ((bt a0 x3_2) == 45) = true := beq_iff_eq.mpr c10
                      have c10b1 : ((bt a0 x3_2) != 45) = false := bne_eq_false_iff_eq.mpr c10
                      clear c10
                      have H' := Aside0.mk H
                      clear H
                      have p7 : 0 ≤ (x3_2 : Int) := of_decide_eq_true (by first | (with_reducible assumption) | assumption)
                      have q7 : x3_2 < (a0.size : Int) := of_decide_eq_true (by first | (with_reducible assumption) | assumption)
                      have hx7 := bt_at a0 x3_2
                      replace p7 := eq_true p7
                      replace q7 := eq_true q7
                      go_wp2
                      go_roundg k2
                      case measure => have := HJ1.out; have := HK2.out; omega
                      case rel => exact ⟨(wrap64 (x3_2 + 1)), (by first | rfl | (simp; done) | (simp [*]; done)), H', ⟨by have := HJ1.out; have := HK2.out; omega⟩, by repeat (first | exact Drawn0.refl _ | apply Drawn0.step)⟩
                    · rw [if_neg c10] at H
                      have c10b0 : ((bt a0 x3_2) == 45) = false := beq_eq_false_iff_ne.mpr c10
                      have c10b1 : ((bt a0 x3_2) != 45) = true := bne_iff_ne.mpr c10
                      obtain rfl := Option.some.inj H
                      have p7 : 0 ≤ (x3_2 : Int) := of_decide_eq_true (by first | (with_reducible assumption) | assumption)
                      have q7 : x3_2 < (a0.size : Int) := of_decide_eq_true (by first | (with_reducible assumption) | assumption)
                      have hx7 := bt_at a0 x3_2
                      replace p7 := eq_true p7
                      replace q7 := eq_true q7
                      go_wp2
                      go_ret
                      exact ⟨by first | rfl | (simp; done) | (simp [*]; done), by repeat (first | exact Drawn0.refl _ | apply Drawn0.step)⟩
                  · rw [if_neg c9] at H
                    have c9b0 : decide ((bt a0 x3_2) < 48) = false := decide_eq_false c9
                    clear c9
                    by_cases c11 : (bt a0 x3_2) > 57
                    · rw [if_pos c11] at H
                      have c11b0 : decide (57 < (bt a0 x3_2)) = true := decide_eq_true c11
                      clear c11
                      by_cases c12 : (bt a0 x3_2) = 45
                      · rw [if_pos c12] at H
                        have c12b0 : ((bt a0 x3_2) == 45) = true := beq_iff_eq.mpr c12
                        have c12b1 : ((bt a0 x3_2) != 45) = false := bne_eq_false_iff_eq.mpr c12
                        clear c12
                        have H' := Aside0.mk H
                        clear H
                        have p7 : 0 ≤ (x3_2 : Int) := of_decide_eq_true (by first | (with_reducible assumption) | assumption)
                        have q7 : x3_2 < (a0.size : Int) := of_decide_eq_true (by first | (with_reducible assumption) | assumption)
                        have hx7 := bt_at a0 x3_2
                        replace p7 := eq_true p7
                        replace q7 := eq_true q7
                        go_wp2
                        go_roundg k2
                        case measure => have := HJ1.out; have := HK2.out; omega
                        case rel => exact ⟨(wrap64 (x3_2 + 1)), (by first | rfl | (simp; done) | (simp [*]; done)), H', ⟨by have := HJ1.out; have := HK2.out; omega⟩, by repeat (first | exact Drawn0.refl _ | apply Drawn0.step)⟩
                      · rw [if_neg c12] at H
                        have c12b0 : ((bt a0 x3_2) == 45) = false := beq_eq_false_iff_ne.mpr c12
                        have c12b1 : ((bt a0 x3_2) != 45) = true := bne_iff_ne.mpr c12
                        obtain rfl := Option.some.inj H
                        have p7 : 0 ≤ (x3_2 : Int) := of_decide_eq_true (by first | (with_reducible assumption) | assumption)
                        have q7 : x3_2 < (a0.size : Int) := of_decide_eq_true (by first | (with_reducible assumption) | assumption)
                        have hx7 := bt_at a0 x3_2
                        replace p7 := eq_true p7
                        replace q7 := eq_true q7
                        go_wp2
                        go_ret
                        exact ⟨by first | rfl | (simp; done) | (simp [*]; done), by repeat (first | exact Drawn0.refl _ | apply Drawn0.step)⟩
                    · rw [if_neg c11] at H
                      have c11b0 : decide (57 < (bt a0 x3_2)) = false := decide_eq_false c11
                      clear c11
                      have H' := Aside0.mk H
                      clear H
                      have p7 : 0 ≤ (x3_2 : Int) := of_decide_eq_true (by first | (with_reducible assumption) | assumption)
                      have q7 : x3_2 < (a0.size : Int) := of_decide_eq_true (by first | (with_reducible assumption) | assumption)
                      have hx7 := bt_at a0 x3_2
                      replace p7 := eq_true p7
                      replace q7 := eq_true q7
                      go_wp2
                      go_roundg k2
                      case measure => have := HJ1.out; have := HK2.out; omega
                      case rel => exact ⟨(wrap64 (x3_2 + 1)), (by first | rfl | (simp; done) | (simp [*]; done)), H', ⟨by have := HJ1.out; have := HK2.out; omega⟩, by repeat (first | exact Drawn0.refl _ | apply Drawn0.step)⟩
                · rw [if_neg c8] at H
                  have c8b0 : decide ((bt a0 x3_2) < 97) = false := decide_eq_false c8
                  clear c8
                  by_cases c13 : (bt a0 x3_2) > 122
                  · rw [if_pos c13] at H
                    have c13b0 : decide (122 < (bt a0 x3_2)) = true := decide_eq_true c13
                    clear c13
                    by_cases c14 : (bt a0 x3_2) < 48
                    · rw [if_pos c14] at H
                      have c14b0 : decide ((bt a0 x3_2) < 48) = true := decide_eq_true c14
                      clear c14
                      by_cases c15 : (bt a0 x3_2) = 45
                      · rw [if_pos c15] at H
                        have c15b0 : ((bt a0 x3_2) == 45) = true := beq_iff_eq.mpr c15
                        have c15b1 : ((bt a0 x3_2) != 45) = false := bne_eq_false_iff_eq.mpr c15
                        clear c15
                        have H' := Aside0.mk H
                        clear H
                        have p7 : 0 ≤ (x3_2 : Int) := of_decide_eq_true (by first | (with_reducible assumption) | assumption)
                        have q7 : x3_2 < (a0.size : Int) := of_decide_eq_true (by first | (with_reducible assumption) | assumption)
                        have hx7 := bt_at a0 x3_2
                        replace p7 := eq_true p7
                        replace q7 := eq_true q7
                        go_wp2
                        go_roundg k2
                        case measure => have := HJ1.out; have := HK2.out; omega
                        case rel => exact ⟨(wrap64 (x3_2 + 1)), (by first | rfl | (simp; done) | (simp [*]; done)), H', ⟨by have := HJ1.out; have := HK2.out; omega⟩, by repeat (first | exact Drawn0.refl _ | apply Drawn0.step)⟩
                      · rw [if_neg c15] at H
                        have c15b0 : ((bt a0 x3_2) == 45) = false := beq_eq_false_iff_ne.mpr c15
                        have c15b1 : ((bt a0 x3_2) != 45) = true := bne_iff_ne.mpr c15
                        obtain rfl := Option.some.inj H
                        have p7 : 0 ≤ (x3_2 : Int) := of_decide_eq_true (by first | (with_reducible assumption) | assumption)
                        have q7 : x3_2 < (a0.size : Int) := of_decide_eq_true (by first | (with_reducible assumption) | assumption)
                        have hx7 := bt_at a0 x3_2
                        replace p7 := eq_true p7
                        replace q7 := eq_true q7
                        go_wp2
                        go_ret
                        exact ⟨by first | rfl | (simp; done) | (simp [*]; done), by repeat (first | exact Drawn0.refl _ | apply Drawn0.step)⟩
                    · rw [if_neg c14] at H
                      have c14b0 : decide ((bt a0 x3_2) < 48) = false := decide_eq_false c14
                      clear c14
                      by_cases c16 : (bt a0 x3_2) > 57
                      · rw [if_pos c16] at H
                        have c16b0 : decide (57 < (bt a0 x3_2)) = true := decide_eq_true c16
                        clear c16
                        by_cases c17 : (bt a0 x3_2) = 45
                        · rw [if_pos c17] at H
                          have c17b0 : ((bt a0 x3_2) == 45) = true := beq_iff_eq.mpr c17
                          have c17b1 : ((bt a0 x3_2) != 45) = false := bne_eq_false_iff_eq.mpr c17
                          clear c17
                          have H' := Aside0.mk H
                          clear H
                          have p7 : 0 ≤ (x3_2 : Int) := of_decide_eq_true (by first | (with_reducible assumption) | assumption)
                          have q7 : x3_2 < (a0.size : Int) := of_decide_eq_true (by first | (with_reducible assumption) | assumption)
                          have hx7 := bt_at a0 x3_2
                          replace p7 := eq_true p7
                          replace q7 := eq_true q7
                          go_wp2
                          go_roundg k2
                          case measure => have := HJ1.out; have := HK2.out; omega
                          case rel => exact ⟨(wrap64 (x3_2 + 1)), (by first | rfl | (simp; done) | (simp [*]; done)), H', ⟨by have := HJ1.out; have := HK2.out; omega⟩, by repeat (first | exact Drawn0.refl _ | apply Drawn0.step)⟩
                        · rw [if_neg c17] at H
                          have c17b0 : ((bt a0 x3_2) == 45) = false := beq_eq_false_iff_ne.mpr c17
                          have c17b1 : ((bt a0 x3_2) != 45) = true := bne_iff_ne.mpr c17
                          obtain rfl := Option.some.inj H
                          have p7 : 0 ≤ (x3_2 : Int) := of_decide_eq_true (by first | (with_reducible assumption) | assumption)
                          have q7 : x3_2 < (a0.size : Int) := of_decide_eq_true (by first | (with_reducible assumption) | assumption)
                          have hx7 := bt_at a0 x3_2
                          replace p7 := eq_true p7
                          replace q7 := eq_true q7
                          go_wp2
                          go_ret
                          exact ⟨by first | rfl | (simp; done) | (simp [*]; done), by repeat (first | exact Drawn0.refl _ | apply Drawn0.step)⟩
                      · rw [if_neg c16] at H
                        have c16b0 : decide (57 < (bt a0 x3_2)) = false := decide_eq_false c16
                        clear c16
                        have H' := Aside0.mk H
                        clear H
                        have p7 : 0 ≤ (x3_2 : Int) := of_decide_eq_true (by first | (with_reducible assumption) | assumption)
                        have q7 : x3_2 < (a0.size : Int) := of_decide_eq_true (by first | (with_reducible assumption) | assumption)
                        have hx7 := bt_at a0 x3_2
                        replace p7 := eq_true p7
                        replace q7 := eq_true q7
                        go_wp2
                        go_roundg k2
                        case measure => have := HJ1.out; have := HK2.out; omega
                        case rel => exact ⟨(wrap64 (x3_2 + 1)), (by first | rfl | (simp; done) | (simp [*]; done)), H', ⟨by have := HJ1.out; have := HK2.out; omega⟩, by repeat (first | exact Drawn0.refl _ | apply Drawn0.step)⟩
                  · rw [if_neg c13] at H
                    have c13b0 : decide (122 < (bt a0 x3_2)) = false := decide_eq_false c13
                    clear c13
                    have H' := Aside0.mk H
                    clear H
                    have p7 : 0 ≤ (x3_2 : Int) := of_decide_eq_true (by first | (with_reducible assumption) | assumption)
                    have q7 : x3_2 < (a0.size : Int) := of_decide_eq_true (by first | (with_reducible assumption) | assumption)
                    have hx7 := bt_at a0 x3_2
                    replace p7 := eq_true p7
                    replace q7 := eq_true q7
                    go_wp2
                    go_roundg k2
                    case measure => have := HJ1.out; have := HK2.out; omega
                    case rel => exact ⟨(wrap64 (x3_2 + 1)), (by first | rfl | (simp; done) | (simp [*]; done)), H', ⟨by have := HJ1.out; have := HK2.out; omega⟩, by repeat (first | exact Drawn0.refl _ | apply Drawn0.step)⟩
              · rw [if_neg c6] at H
                exact absurd H (by simp)
            · rw [if_neg c5] at H
              have c5b0 : decide (x3_2 < (a0.size : Int)) = false := decide_eq_false c5
              clear c5
              obtain rfl := Option.some.inj H
              go_wp2
              go_ret
              exact ⟨by first | rfl | (simp; done) | (simp [*]; done), by repeat (first | exact Drawn0.refl _ | apply Drawn0.step)⟩
end
end Go.Proofs.YtcallfgihohldaaDoor.PA
namespace Go.Proofs.YtcallfgihohldaaDoor.PA
section

open Go.RowKit Go.Proofs.YtcallfgihohldaaDoorW.PrintWords Go.Proofs.YtcallfgihohldaaDoorW.PrintLast Go.Proofs.YtcallfgihohldaaDoorW.PrintMore
attribute [local go_sem] max2_int min2_int max_two min_two max_three min_three max_four min_four
set_option linter.unusedVariables false
set_option linter.unusedSimpArgs false
theorem bt_val {s : ByteArray} {i : Nat} {x : UInt8} (h : s.data.toList[i]? = some x) : bt s (i : Int) = (x.toNat : Int) := by
  obtain ⟨hl, hx⟩ := List.getElem?_eq_some_iff.1 h
  have hs : i < s.size := hl
  unfold bt
  rw [dif_pos (show (i : Int).toNat < s.size by omega)]
  have : s[(i : Int).toNat]'(by omega) = x := by
    rw [← hx]
    rfl
  rw [this]
theorem okC_iff (x : UInt8) : okC x = true ↔ (97 ≤ x.toNat ∧ x.toNat ≤ 122) ∨ (48 ≤ x.toNat ∧ x.toNat ≤ 57) ∨ x.toNat = 45 := by
  unfold okC
  simp [or_assoc]
theorem refName_l0 (s : ByteArray) (hs : s.size ≤ 40) : ∀ (k i : Nat), i ≤ s.size → s.size - i < k → cisternref02_Name.l0 k s (i : Int) = some ((s.data.toList.drop i).all okC)
  | 0, _, _, h => absurd h (Nat.not_lt_zero _)
  | k + 1, i, hi, hk => by
    unfold cisternref02_Name.l0
    by_cases hl : i < s.size
    · have ih := refName_l0 s hs k (i + 1) hl (by omega)
      have hw : wrap64 ((i : Int) + 1) = ((i + 1 : Nat) : Int) := by unfold wrap64; omega
      have hsz : s.data.toList.length = s.size := rfl
      obtain ⟨x, hx⟩ : ∃ x, s.data.toList[i]? = some x := ⟨_, List.getElem?_eq_getElem (by rw [hsz]; exact hl)⟩
      have hd : s.data.toList.drop i = x :: s.data.toList.drop (i + 1) := by
        rw [List.drop_eq_getElem_cons (by rw [hsz]; exact hl)]
        congr 1
        exact (List.getElem?_eq_some_iff.1 hx).2
      have h255 := x.toNat_lt
      rw [if_pos (by omega), if_pos (by omega), hw, ih, bt_val hx, hd, List.all_cons]
      generalize ((s.data.toList.drop (i + 1)).all okC) = r
      have ho := okC_iff x
      cases h : okC x
      · rw [h] at ho
        simp only [Bool.false_eq_true, false_iff, not_or, not_and] at ho
        rw [Bool.false_and]
        repeat' split
        all_goals first | rfl | (exfalso; omega)
      · rw [h] at ho
        simp only [true_iff] at ho
        rw [Bool.true_and]
        repeat' split
        all_goals first | rfl | (exfalso; omega)
    · rw [if_neg (by omega)]
      have : s.data.toList.drop i = [] := List.drop_eq_nil_of_le (show s.size ≤ i by omega)
      rw [this]
      rfl
theorem refName_val (s : ByteArray) : cisternref02_Name.f 50 s = some (nameB s) := by
  unfold cisternref02_Name.f nameB
  rw [Lib.toList_data]
  by_cases h0 : s.data.toList = []
  · rw [if_pos h0, h0]
    rfl
  · rw [if_neg h0]
    have hb : (s.data.toList == []) = false := by simpa using h0
    rw [hb]
    by_cases h1 : s.size ≤ 40
    · rw [decide_eq_false (show ¬ ((s.size : Int) > 40) by omega), decide_eq_true h1]
      have h2 : cisternref02_Name.j0 50 s false = cisternref02_Name.l0 49 s ((0 : Nat) : Int) := rfl
      rw [h2, refName_l0 s h1 49 0 (Nat.zero_le _) (by omega)]
      rfl
    · rw [decide_eq_true (show (s.size : Int) > 40 by omega), decide_eq_false h1]
      rfl
theorem refName_calls (s : ByteArray) (W : World) : Calls Tryd.prog 16 #[.string s] W fun e W' => e = .returned (.bool (nameB s)) ∧ Below W.heap.size W W' := by
  refine (cisternref02_Name.calls 50 s _ W (refName_val s)).mono ?_
  rintro e w' ⟨rfl, ⟨n, rfl⟩⟩
  exact ⟨rfl, pw_below_drewN (Below.refl _ _) _⟩
end
end Go.Proofs.YtcallfgihohldaaDoor.PA
namespace Go.Proofs.YtcallfgihohldaaDoor.PA
section

open Go.RowKit Go.Proofs.YtcallfgihohldaaDoorW.PrintWords Go.Proofs.YtcallfgihohldaaDoorW.PrintLast Go.Proofs.YtcallfgihohldaaDoorW.PrintMore
attribute [local go_sem] max2_int min2_int max_two min_two max_three min_three max_four min_four
set_option linter.unusedVariables false
set_option linter.unusedSimpArgs false
set_option maxHeartbeats 1000000 in
theorem rtold_calls (o : Int) (W : World) : Calls Tryd.prog 49 #[.int .i64 o] W fun e W' => e = .returned (.int .i64 (toldI o)) ∧ W' = W := by
  by_cases h : o = 0
  · subst h
    go_enter Tryd.func49, Tryd.ntmps49
    go_wp2_with fail
    go_ret
    exact ⟨rfl, rfl⟩
  · have e : toldI o = 15 := if_pos h
    have hb : (o != 0) = true := bne_iff_ne.2 h
    rw [e]
    clear e h
    go_enter Tryd.func49, Tryd.ntmps49
    go_wp2_with fail
    go_ret
    exact ⟨rfl, rfl⟩
theorem rtake_went {W w1 : World} {G : Nat → Prop} {r : Nat} {S : RSt} (h : RAt W G r S) (hw1 : Below W.heap.size W w1) :
    Calls Tryd.prog 47 #[.pointer (some ⟨r, 0, none⟩)] w1 fun e W' => e = .returned (.int .i64 S.o) ∧ RAt W' G r S.next ∧ Went G G W W' := by
  refine (rtake_calls (h.below hw1)).mono ?_
  rintro e w2 ⟨rfl, hb2, hg2⟩
  obtain ⟨v0, v1, vo, hb, hG, _⟩ := h
  exact ⟨rfl, hb2, (Went.of hw1).trans ⟨Chg.grown hg2 hG, fun _ h => .inl h⟩⟩
set_option maxHeartbeats 2000000 in
set_option maxRecDepth 100000 in
theorem rroot_calls {W : World} {G : Nat → Prop} {r : Nat} {S : RSt} (h : RAt W G r S) :
    Calls Tryd.prog 35 #[.pointer (some ⟨r, 0, none⟩)] W fun e W' => e = .returned (if S.o = 0 then .tuple #[.int .i64 S.ver, .string S.root, .int .i64 0] else .tuple #[.int .i64 0, .string ⟨#[]⟩, .int .i64 15]) ∧ RAt W' G r S.next ∧ Went G G W W' := by
  have XK := Aside0.mk (rtake_went h (Below.refl _ _))
  obtain ⟨o, ho⟩ : ∃ o, o = S.o := ⟨_, rfl⟩
  obtain ⟨S1, hS1⟩ : ∃ S1, S1 = S.next := ⟨_, rfl⟩
  have hv : S.ver = S1.ver := by rw [hS1]; rfl
  have hr : S.root = S1.root := by rw [hS1]; rfl
  rw [← ho, ← hS1, hv, hr]
  rw [← ho, ← hS1] at XK
  clear h ho hS1 hv hr
  by_cases h0 : o = 0
  · rw [if_pos h0]
    have hb0 : (o != 0) = false := by simp [h0]
    clear h0
    go_enter Tryd.func35, Tryd.ntmps35
    go_wp2_with (first | (go_at_call 47; refine XK.out.mono ?_; rintro e w2 ⟨rfl, hb2, hW2⟩; have XW := Aside0.mk hW2; have Xb2 := Aside0.mk hb2; obtain ⟨v0, v1, vo, hb, _⟩ := hb2; have c2 : w2.cell? ⟨r, 2, none⟩ = some (.int .i64 S1.ver) := blk_cell hb 2; have c3 : w2.cell? ⟨r, 3, none⟩ = some (.string S1.root) := blk_cell hb 3; clear hb hW2) | fail)
    go_quiet (fail)
    go_wp2
    go_ret3
    exact ⟨rfl, Xb2.out.below (pw_below_drewN (Below.refl _ _) _), XW.out.trans (Went.of (pw_below_drewN (Below.refl _ _) _))⟩
  · rw [if_neg h0]
    have hb0 : (o != 0) = true := bne_iff_ne.2 h0
    clear h0
    go_enter Tryd.func35, Tryd.ntmps35
    go_wp2_with (first | (go_at_call 47; refine XK.out.mono ?_; rintro e w2 ⟨rfl, hb2, hW2⟩; have XW := Aside0.mk hW2; have Xb2 := Aside0.mk hb2; clear hb2 hW2) | fail)
    go_ret3
    exact ⟨rfl, Xb2.out, XW.out⟩
structure PlaceOf (L : List ByteArray) (nm : ByteArray) (i : Nat) (there : Bool) : Prop where
  le : i ≤ L.length
  lt : ∀ j (h : j < L.length), j < i → Op.bytesLess L[j].toList nm.toList = true
  at_ : ∀ h : i < L.length, Op.bytesLess L[i].toList nm.toList = false ∧ there = (L[i].toList == nm.toList)
  off : i = L.length → there = false
theorem rd_str {L : List ByteArray} {i : Nat} (h : i < L.length) : rdOf ByteArray.empty L (i : Int) = L[i] := by
  unfold rdOf
  simp [h]
set_option maxHeartbeats 4000000 in
set_option maxRecDepth 100000 in
theorem rplace_calls {W : World} {G : Nat → Prop} {r : Nat} {S : RSt} (h : RAt W G r S) (hn : S.pl.length ≤ 1000000) (nm : ByteArray) :
    Calls Tryd.prog 48 #[.pointer (some ⟨r, 0, none⟩), .string nm] W fun e W' => ∃ i there, e = .returned (.tuple #[.int .i64 ((i : Nat) : Int), .bool there]) ∧ PlaceOf (S.pl.map (·.1)) nm i there ∧ Below W.heap.size W W' := by
  obtain ⟨v0, v1, vo, hb, hG, h0, h1, hO, hne⟩ := h
  obtain ⟨L, hL⟩ : ∃ L, L = S.pl.map (·.1) := ⟨_, rfl⟩
  have hLn : L.length ≤ 1000000 := by rw [hL, List.length_map]; exact hn
  rw [← hL] at h0 ⊢
  obtain ⟨A, c, rfl, hc, hC⟩ := h0.form
  have c0 : W.cell? ⟨r, 0, none⟩ = some (.slice A L.length c) := blk_cell hb 0
  have XC := Aside0.mk hC
  clear hb hG h0 h1 hO hne hC hL hn
  go_enter Tryd.func48, Tryd.ntmps48
  go_wp2_with fail
  go_loop [6] (fun v => ∃ i : Nat, i ≤ L.length ∧ v = .int .i64 (i : Int) ∧ Aside0 (∀ j (h : j < L.length), j < i → Op.bytesLess L[j].toList nm.toList = true)) (fun v => ((L.length : Int) - intOf v).toNat)
  case atStart => exact ⟨0, Nat.zero_le _, rfl, ⟨fun j _ h => absurd h (Nat.not_lt_zero _)⟩⟩
  case round =>
    obtain ⟨i, hi, rfl, YL⟩ := hrel
    by_cases hlt : i < L.length
    · have d1 : decide ((i : Int) < (L.length : Int)) = true := decide_eq_true (by omega)
      have p1 : (0 : Int) ≤ (i : Int) := Int.natCast_nonneg _
      have p2 : (i : Int) < (L.length : Int) := Int.ofNat_lt.2 hlt
      have hi6 : i < 1000000 := by omega
      obtain ⟨ad, hA, hc1⟩ := Kd.at_string XC.out (i : Int) p1 p2
      rw [Int.toNat_natCast, rd_str hlt] at hc1
      have HM : Aside0 (((L.length : Int) - intOf (.int .i64 ((i + 1 : Nat) : Int))).toNat < ((L.length : Int) - intOf (.int .i64 (i : Int))).toNat) := ⟨by simp [intOf]; omega⟩
      obtain ⟨x, hx⟩ : ∃ x, x = L[i] := ⟨_, rfl⟩
      rw [← hx] at hc1
      have XX := Aside0.mk hx
      subst hA
      clear hx
      cases hb : Op.bytesLess x.toList nm.toList
      · have XB := Aside0.mk hb
        go_wp2_with fail
        go_quiet (fail)
        go_wp2_with fail
        go_ret2
        exact ⟨i, _, rfl, ⟨hi, YL.out, fun h => ⟨by rw [← XX.out]; exact XB.out, by rw [← XX.out]⟩, fun h => by omega⟩, pw_below_drewN (Below.refl _ _) _⟩
      · have XB := Aside0.mk hb
        go_wp2_with fail
        refine ⟨⟨i + 1, hlt, rfl, ⟨fun j h hj => ?_⟩⟩, HM.out⟩
        by_cases e : j = i
        · subst e
          rw [← XX.out]
          exact XB.out
        · exact YL.out j h (by omega)
    · have d1 : decide ((i : Int) < (L.length : Int)) = false := decide_eq_false (by omega)
      go_wp2_with fail
      go_quiet (fail)
      go_wp2_with fail
      go_ret2
      exact ⟨i, _, rfl, ⟨hi, YL.out, fun h => absurd h hlt, fun _ => rfl⟩, pw_below_drewN (Below.refl _ _) _⟩
def RSt.at (S : RSt) (i : Nat) : ByteArray := (S.pl.map (·.2))[i]?.getD ByteArray.empty
set_option maxHeartbeats 4000000 in
set_option maxRecDepth 100000 in
theorem rget_calls {W : World} {G : Nat → Prop} {r : Nat} {S : RSt} (h : RAt W G r S) (hn : S.pl.length ≤ 1000000) (nm : ByteArray) :
    Calls Tryd.prog 31 #[.pointer (some ⟨r, 0, none⟩), .string nm] W fun e W' => ∃ (R' : RSt) (s : ByteArray) (f : Int), e = .returned (.tuple #[.string s, .int .i64 f]) ∧ RAt W' G r R' ∧ Went G G W W' ∧
      ((nameB nm = false ∧ R' = S ∧ s = ⟨#[]⟩ ∧ f = 6) ∨ (nameB nm = true ∧ R' = S.next ∧ ((S.o ≠ 0 ∧ s = ⟨#[]⟩ ∧ f = 15) ∨ (S.o = 0 ∧ ∃ i there, PlaceOf (S.pl.map (·.1)) nm i there ∧ ((there = false ∧ s = ⟨#[]⟩ ∧ f = 7) ∨ (there = true ∧ i < S.pl.length ∧ s = S.at i ∧ f = 0)))))) := by
  have KN := Aside0.mk (refName_calls nm W)
  cases hB : nameB nm <;> rw [hB] at KN
  · have X := Aside0.mk h
    clear h hB
    go_enter Tryd.func31, Tryd.ntmps31
    go_wp2_with (first | (go_at_call 16; refine KN.out.mono ?_; rintro e w1 ⟨rfl, hw⟩; have Xw := Aside0.mk hw; clear hw) | fail)
    go_ret2
    exact ⟨S, _, _, rfl, X.out.below Xw.out, Went.of Xw.out, .inl ⟨by simp, rfl, rfl, rfl⟩⟩
  · have XK := Aside0.mk (fun w1 => rtake_went (w1 := w1) h)
    have Xn := Aside0.mk hn
    obtain ⟨o, ho⟩ : ∃ o, o = S.o := ⟨_, rfl⟩
    rw [← ho] at XK ⊢
    clear h hB hn ho
    by_cases h0 : o = 0
    · have hb0 : (o != 0) = false := by simp [h0]
      have X0 := Aside0.mk h0
      clear h0
      go_enter Tryd.func31, Tryd.ntmps31
      go_wp2_with (first | (go_at_call 16; refine KN.out.mono ?_; rintro e w1 ⟨rfl, hw⟩; have Xw := Aside0.mk hw; clear hw) | (go_at_call 47; refine (XK.out _ Xw.out).mono ?_; rintro e w2 ⟨rfl, hb2, hW2⟩; have XW := Aside0.mk hW2; have Xb2 := Aside0.mk hb2; clear hb2 hW2) | fail)
      refine (rplace_calls Xb2.out Xn.out nm).mono ?_
      rintro e w3 ⟨i, there, rfl, hP, hB3⟩
      have XP := Aside0.mk hP
      have XB3 := Aside0.mk hB3
      cases there with
      | false =>
        clear hP hB3
        go_wp2_with fail
        go_ret2
        exact ⟨S.next, _, _, rfl, Xb2.out.below XB3.out, XW.out.trans (Went.of XB3.out), .inr ⟨by simp, rfl, .inr ⟨X0.out, i, false, XP.out, .inl ⟨rfl, rfl, rfl⟩⟩⟩⟩
      | true =>
        have hlt : i < S.pl.length := by
          have h1 := hP.le
          rw [List.length_map] at h1
          rcases Nat.lt_or_ge i S.pl.length with h2 | h2
          · exact h2
          · have h3 : i = S.pl.length := by have : S.next.pl = S.pl := rfl; rw [this] at h1; omega
            have := hP.off (by rw [List.length_map]; exact h3)
            cases this
        have h3 := Xb2.out.below hB3
        obtain ⟨v0, v1, vo, hb, hG, h0, h1, hO, hne⟩ := h3
        obtain ⟨A, c, rfl, hc, hC⟩ := h1.form
        have c1 : w3.cell? ⟨r, 1, none⟩ = some (.slice A (S.next.pl.map (·.2)).length c) := blk_cell hb 1
        have hlen : (S.next.pl.map (·.2)).length = S.pl.length := List.length_map _
        obtain ⟨nl, hnl⟩ : ∃ nl, nl = (S.next.pl.map (·.2)).length := ⟨_, rfl⟩
        rw [← hnl] at c1
        have hil : i < nl := by rw [hnl, hlen]; exact hlt
        have p1 : (0 : Int) ≤ (i : Int) := Int.natCast_nonneg _
        have p2 : (i : Int) < (nl : Int) := Int.ofNat_lt.2 hil
        have hil2 : i < (S.next.pl.map (·.2)).length := by rw [hlen]; exact hlt
        obtain ⟨ad, hA, hc1⟩ := Kd.at_string hC (i : Int) p1 (by rw [hlen]; exact Int.ofNat_lt.2 hlt)
        rw [Int.toNat_natCast, rd_str hil2] at hc1
        obtain ⟨x, hx⟩ : ∃ x, x = (S.next.pl.map (·.2))[i] := ⟨_, rfl⟩
        rw [← hx] at hc1
        have hxa : x = S.at i := by
          rw [hx]
          unfold RSt.at
          have e : S.next.pl = S.pl := rfl
          simp only [e] at hil2 ⊢
          rw [List.getElem?_eq_getElem hil2]
          rfl
        have XA := Aside0.mk hxa
        have XL := Aside0.mk hlt
        subst hA
        clear hP hB3 hb hG h0 h1 hO hne hC hlen hnl hx hxa hil2 hlt hc
        go_wp2_with fail
        go_ret2
        exact ⟨S.next, _, _, rfl, Xb2.out.below XB3.out, XW.out.trans (Went.of XB3.out), .inr ⟨by simp, rfl, .inr ⟨X0.out, i, true, XP.out, .inr ⟨rfl, XL.out, XA.out, rfl⟩⟩⟩⟩
    · have hb0 : (o != 0) = true := bne_iff_ne.2 h0
      have X0 := Aside0.mk h0
      clear h0
      go_enter Tryd.func31, Tryd.ntmps31
      go_wp2_with (first | (go_at_call 16; refine KN.out.mono ?_; rintro e w1 ⟨rfl, hw⟩; have Xw := Aside0.mk hw; clear hw) | (go_at_call 47; refine (XK.out _ Xw.out).mono ?_; rintro e w2 ⟨rfl, hb2, hW2⟩; have XW := Aside0.mk hW2; have Xb2 := Aside0.mk hb2; clear hb2 hW2) | fail)
      go_ret2
      exact ⟨S.next, _, _, rfl, Xb2.out, XW.out, .inr ⟨by simp, rfl, .inl ⟨X0.out, rfl, rfl⟩⟩⟩
theorem str_row {W : World} {A : Option Addr} {L : List ByteArray} (hC : Kd.C Kd.string W A L.length L) : 0 < (L.map Value.string).length → ∃ ad, A = some ad ∧ ∀ j u, (L.map Value.string)[j]? = some u → W.cell? (ad.add j) = some u := by
  intro h0
  rw [List.length_map] at h0
  obtain ⟨ad, e, hh⟩ := hC.2.2 h0
  refine ⟨ad, e, fun j u hu => ?_⟩
  rw [List.getElem?_map, Option.map_eq_some_iff] at hu
  obtain ⟨x, hx, rfl⟩ := hu
  obtain ⟨cs, h1, h2, h3⟩ := hh j x hx
  have h2' : cs = [.string x] := h2
  have := h3 0 (.string x) (by rw [h2']; rfl)
  rw [show j * Kd.string.sz + 0 = j from Nat.mul_one j] at this
  exact this
/-- 'append([]string{}, l...)'. -/
theorem copy_str (W : World) (A : Option Addr) (c : Nat) (L : List ByteArray) (hC : Kd.C Kd.string W A L.length L) (hl : L.length ≤ 1000000) :
    ∃ A' c' W', (Builtin.append_ #[22, 22] 22 #[.slice (some ⟨W.heap.size, 0, none⟩) 0 0, .slice A L.length c]).run Tryd.prog (W.alloc (.cells #[] 9)) = .ok (.slice A' L.length c') W' ∧ L.length ≤ c' ∧ Kd.C Kd.string W' A' L.length L ∧ Below W.heap.size W W' ∧ (∀ ad, A' = some ad → ∃ q cs, ad = ⟨q, 0, none⟩ ∧ W.heap.size ≤ q ∧ W'.heap[q]? = some (.cells cs 9 (0, 0))) := by
  obtain ⟨v', W', hrun, ⟨q, c', cs, rfl, h1, h2, h3, h4⟩, hB⟩ := copy_run 22 9 (.string ⟨#[]⟩) 16 (by kernel_rfl) info9' rfl 22 W A c (L.map Value.string) (str_row hC) (by rw [List.length_map]; simp only [maxLen]; omega) (by rw [List.length_map]; omega)
  rw [List.length_map] at hrun h1
  refine ⟨_, c', W', hrun, h1, ⟨rfl, by omega, fun _ => ⟨_, rfl, fun j p hj => ⟨[.string p], rfl, rfl, fun r u hu => ?_⟩⟩⟩, hB, fun ad e => ⟨q, cs, (Option.some.inj e).symm, h2, h3⟩⟩
  cases r with
  | zero =>
    simp only [List.getElem?_cons_zero, Option.some.injEq] at hu
    subst hu
    rw [add_plain, blk_cell h3, show j * Kd.string.sz + 0 = j from Nat.mul_one j]
    exact h4 j _ (by rw [List.getElem?_map, hj]; rfl)
  | succ r => simp at hu
theorem rlist_prep {W : World} {G : Nat → Prop} {r : Nat} {S : RSt} (h : RAt W G r S) (hn : S.pl.length ≤ 1000000) : ∃ (A : Option Addr) (c nl : Nat) (A' : Option Addr) (c' : Nat) (W3 : World), (W.alloc (.cells #[] 9)).cell? ⟨r, 0, none⟩ = some (.slice A nl c) ∧
    (Builtin.append_ #[22, 22] 22 #[.slice (some ⟨W.heap.size, 0, none⟩) 0 0, .slice A nl c]).run Tryd.prog (W.alloc (.cells #[] 9)) = .ok (.slice A' nl c') W3 ∧
    Aside0 (nl = (S.pl.map (·.1)).length ∧ nl ≤ c' ∧ Kd.C Kd.string W3 A' (S.pl.map (·.1)).length (S.pl.map (·.1)) ∧ Below W.heap.size W W3 ∧ (∀ ad, A' = some ad → ∃ q cs, ad = ⟨q, 0, none⟩ ∧ W.heap.size ≤ q ∧ W3.heap[q]? = some (.cells cs 9 (0, 0)))) := by
  obtain ⟨v0, v1, vo, hb, hG, h0, h1, hO, hne⟩ := h
  obtain ⟨A, c, rfl, hc, hC⟩ := h0.form
  obtain ⟨A', c', W3, e1, e2, e3, e4, e5⟩ := copy_str W A c _ hC (by rw [List.length_map]; exact hn)
  exact ⟨A, c, _, A', c', W3, blk_cell ((below_alloc (Below.refl _ _) (.cells #[] 9)).block _ (blk_lt hb) ▸ hb) 0, e1, ⟨rfl, e2, e3, e4, e5⟩⟩
set_option maxHeartbeats 4000000 in
set_option maxRecDepth 100000 in
theorem rlist_calls {W : World} {G : Nat → Prop} {r : Nat} {S : RSt} (h : RAt W G r S) (hn : S.pl.length ≤ 1000000) :
    Calls Tryd.prog 33 #[.pointer (some ⟨r, 0, none⟩)] W fun e W' => ∃ (A : Option Addr) (c : Nat) (L : List ByteArray), e = .returned (.tuple #[.slice A L.length c, .int .i64 (if S.o = 0 then 0 else 15)]) ∧ L.length ≤ c ∧ Kd.C Kd.string W' A L.length L ∧ (∀ ad, A = some ad → ¬ G ad.block ∨ W.heap.size ≤ ad.block) ∧
      (S.o = 0 → L = S.pl.map (·.1)) ∧ (S.o ≠ 0 → L = []) ∧ RAt W' G r S.next ∧ Went G G W W' := by
  have XK := Aside0.mk (rtake_went h (Below.refl _ _))
  have Xn := Aside0.mk hn
  obtain ⟨o, ho⟩ : ∃ o, o = S.o := ⟨_, rfl⟩
  rw [← ho] at XK ⊢
  clear h hn ho
  by_cases h0 : o = 0
  · rw [if_pos h0]
    have hb0 : (o != 0) = false := by simp [h0]
    have X0 := Aside0.mk h0
    clear h0
    go_enter Tryd.func33, Tryd.ntmps33
    go_wp2_with (first | (go_at_call 47; refine XK.out.mono ?_; rintro e w2 ⟨rfl, hb2, hW2⟩; have XW := Aside0.mk hW2; have Xb2 := Aside0.mk hb2; obtain ⟨A, c, nl, A', c', W3, c0, hap, XP⟩ := rlist_prep hb2 Xn.out; have XA := Aside0.mk hap; clear hb2 hW2 hap) | (at_builtin; refine wpList_append_ran rfl (.tmp 7) (.tmp 11) 22 rfl _ _ _ rfl rfl XA.out ?_) | fail)
    go_ret2
    obtain ⟨e1, e2, e3, e4, e5⟩ := XP.out
    exact ⟨A', c', _, by rw [← e1]; rfl, by rw [← e1]; exact e2, e3, fun ad e => by { obtain ⟨q, cs, rfl, h1, _⟩ := e5 ad e; exact .inr (Nat.le_trans XW.out.chg.size h1) }, fun _ => rfl, fun h => absurd X0.out h, Xb2.out.below e4, XW.out.trans (Went.of e4)⟩
  · rw [if_neg h0]
    have hb0 : (o != 0) = true := bne_iff_ne.2 h0
    have X0 := Aside0.mk h0
    clear h0
    go_enter Tryd.func33, Tryd.ntmps33
    go_wp2_with (first | (go_at_call 47; refine XK.out.mono ?_; rintro e w2 ⟨rfl, hb2, hW2⟩; have XW := Aside0.mk hW2; have Xb2 := Aside0.mk hb2; clear hb2 hW2) | fail)
    go_ret2
    exact ⟨none, 0, [], rfl, Nat.le_refl _, ⟨rfl, by simp, fun h => absurd h (by simp)⟩, (fun ad e => by cases e), fun h => absurd h X0.out, fun _ => rfl, Xb2.out, XW.out⟩
end
end Go.Proofs.YtcallfgihohldaaDoor.PA
namespace Go.Proofs.YtcallfgihohldaaDoor.PA
section

open Go.RowKit Go.Proofs.YtcallfgihohldaaDoorW.PrintWords Go.Proofs.YtcallfgihohldaaDoorW.PrintLast Go.Proofs.YtcallfgihohldaaDoorW.PrintMore
attribute [local go_sem] max2_int min2_int max_two min_two max_three min_three max_four min_four
set_option linter.unusedVariables false
set_option linter.unusedSimpArgs false
structure Pair (W : World) (B : Nat) (F G : Nat → Prop) (g n : Nat) (S : BSt) (r : Nat) (R : RSt) : Prop where
  st : SAt W B F g n S
  rt : RAt W G r R
  ge : ∀ k, G k → B ≤ k
  lt : ∀ k, G k → k < W.heap.size
  dis : ∀ k, F k → ¬ G k
section
variable {W W' : World} {B g n n' r : Nat} {F F' G G' H : Nat → Prop} {S S' : BSt} {R R' : RSt}
theorem Pair.store (P : Pair W B F G g n S r R) (hw : Went F F' W W') (hs : SAt W' B F' g n' S') : Pair W' B F' G g n' S' r R :=
  ⟨hs, P.rt.move (fun k hk hl => hw.chg.block k hl (fun hf => P.dis k hf hk)) (fun _ h _ => h), P.ge, fun k hk => Nat.lt_of_lt_of_le (P.lt k hk) hw.chg.size, fun k hf hg => by
    rcases hw.new k hf with h | h
    · exact P.dis k h hg
    · have := P.lt k hg; omega⟩
theorem Pair.ref (P : Pair W B F G g n S r R) (hw : Went G G' W W') (hr : RAt W' G' r R') : Pair W' B F G' g n S r R' :=
  ⟨⟨P.st.at_.move (fun k hk hl => hw.chg.block k hl (fun hg => P.dis k hk hg)) (fun _ h _ => h), P.st.ge, fun k hk => Nat.lt_of_lt_of_le (P.st.lt k hk) hw.chg.size, Nat.le_trans P.st.hB hw.chg.size⟩, hr, hw.ge P.ge P.st.hB, hw.lt P.lt, fun k hf hg => by
    rcases hw.new k hg with h | h
    · exact P.dis k hf h
    · have := P.st.lt k hf; omega⟩
theorem Pair.chg (P : Pair W B F G g n S r R) (hc : Chg H W W') (hF : ∀ k, F k → ¬ H k) (hG : ∀ k, G k → ¬ H k) : Pair W' B F G g n S r R :=
  ⟨⟨P.st.at_.move (fun k hk hl => hc.block k hl (hF k hk)) (fun _ h _ => h), P.st.ge, fun k hk => Nat.lt_of_lt_of_le (P.st.lt k hk) hc.size, Nat.le_trans P.st.hB hc.size⟩, P.rt.move (fun k hk hl => hc.block k hl (hG k hk)) (fun _ h _ => h), P.ge, fun k hk => Nat.lt_of_lt_of_le (P.lt k hk) hc.size, P.dis⟩
theorem Pair.below (P : Pair W B F G g n S r R) (hb : Below W.heap.size W W') : Pair W' B F G g n S r R :=
  P.chg (H := fun _ => False) (Chg.of hb) (fun _ _ h => h) (fun _ _ h => h)
/-- A block of the caller's own. -/
structure Mine (W : World) (F G : Nat → Prop) (q : Nat) (c : Obj) : Prop where
  at_ : W.heap[q]? = some c
  nf : ¬ F q
  ng : ¬ G q
theorem Mine.store {q : Nat} {c : Obj} (h : Mine W F G q c) (hw : Went F F' W W') : Mine W' F' G q c := ⟨(hw.chg.block q (blk_lt h.at_) h.nf).trans h.at_, hw.out (blk_lt h.at_) h.nf, h.ng⟩
theorem Mine.ref {q : Nat} {c : Obj} (h : Mine W F G q c) (hw : Went G G' W W') : Mine W' F G' q c := ⟨(hw.chg.block q (blk_lt h.at_) h.ng).trans h.at_, h.nf, hw.out (blk_lt h.at_) h.ng⟩
theorem Mine.chg {q : Nat} {c : Obj} (h : Mine W F G q c) (hc : Chg H W W') (hq : ¬ H q) : Mine W' F G q c := ⟨(hc.block q (blk_lt h.at_) hq).trans h.at_, h.nf, h.ng⟩
theorem Mine.below {q : Nat} {c : Obj} (h : Mine W F G q c) (hb : Below W.heap.size W W') : Mine W' F G q c := h.chg (H := fun _ => False) (Chg.of hb) (fun h => h)
theorem Pair.fresh (P : Pair W B F G g n S r R) {q : Nat} {c : Obj} (hq : W.heap.size ≤ q) (hc : W'.heap[q]? = some c) : Mine W' F G q c := ⟨hc, fun h => by have := P.st.lt q h; omega, fun h => by have := P.lt q h; omega⟩
end
/-- Of w0 the cells of the row A alone have turned. -/
structure Scrib (w0 w' : World) (A : Option Addr) (n t : Nat) : Prop where
  chg : Chg (fun k => 0 < n ∧ ∃ ad : Addr, A = some ad ∧ k = ad.block) w0 w'
  row : 0 < n → ∃ q cs fr, A = some ⟨q, 0, none⟩ ∧ w'.heap[q]? = some (.cells cs t fr) ∧ n ≤ cs.size ∧ ∀ i, i < n → w'.frozen? ⟨q, i, none⟩ = false
theorem heap_setCell_fr (W : World) (g i : Nat) (cs : Array Value) (t : TypeId) (fr : Nat × Nat) (v : Value) (h : W.heap[g]? = some (.cells cs t fr)) : (W.setCell ⟨g, i, none⟩ v).heap[g]? = some (.cells (cs.setIfInBounds i v) t fr) := by
  simp [World.setCell, Array.getElem?_modify, h]
theorem Scrib.set {w0 w' : World} {A : Option Addr} {n t : Nat} (h : Scrib w0 w' A n t) {i : Nat} (hi : i < n) (v : Value) {q : Nat} (hA : A = some ⟨q, 0, none⟩) : Scrib w0 (w'.setCell ⟨q, i, none⟩ v) A n t := by
  obtain ⟨q', cs, fr, hA', hq, hn, hf⟩ := h.row (by omega)
  rw [hA] at hA'
  have e : q = q' := by injection hA' with e; injection e
  subst e
  have hg := grown_one w' q i v
  refine ⟨h.chg.trans (Chg.grown hg ⟨by omega, _, hA, rfl⟩), fun _ => ⟨q, _, fr, hA, heap_setCell_fr w' q i cs t fr v hq, by simpa using hn, fun j hj => ?_⟩⟩
  have := hf j hj
  unfold World.frozen? at this ⊢
  rw [heap_setCell_fr w' q i cs t fr v hq]
  rw [hq] at this
  exact this
theorem Scrib.start {w0 : World} {A : Option Addr} {n t : Nat} (h : 0 < n → ∃ q cs fr, A = some ⟨q, 0, none⟩ ∧ w0.heap[q]? = some (.cells cs t fr) ∧ n ≤ cs.size ∧ ∀ i, i < n → w0.frozen? ⟨q, i, none⟩ = false) : Scrib w0 w0 A n t := ⟨Chg.refl _ _, h⟩
theorem Scrib.at_ {w0 w' : World} {A : Option Addr} {n t : Nat} (h : Scrib w0 w' A n t) {i : Nat} (hi : i < n) : ∃ q u, A = some ⟨q, 0, none⟩ ∧ w'.cell? ⟨q, i, none⟩ = some u ∧ w'.frozen? ⟨q, i, none⟩ = false := by
  obtain ⟨q, cs, fr, hA, hq, hn, hf⟩ := h.row (by omega)
  exact ⟨q, cs[i]'(by omega), hA, (cell_of_row _ _ _ _ _ _ hq).trans (Array.getElem?_eq_getElem _), hf i hi⟩
end
end Go.Proofs.YtcallfgihohldaaDoor.PA
namespace Go.Proofs.YtcallfgihohldaaDoor.PA
section

open Go.RowKit Go.Proofs.YtcallfgihohldaaDoorW.PrintWords Go.Proofs.YtcallfgihohldaaDoorW.PrintLast Go.Proofs.YtcallfgihohldaaDoorW.PrintMore
attribute [local go_sem] max2_int min2_int max_two min_two max_three min_three max_four min_four
set_option linter.unusedVariables false
set_option linter.unusedSimpArgs false
def klt (a b : ByteArray) : Prop := a.data.toList < b.data.toList
theorem klt_irrefl (a : ByteArray) : ¬ klt a a := List.lt_irrefl _
theorem klt_trans {a b c : ByteArray} (h : klt a b) (k : klt b c) : klt a c := List.lt_trans h k
theorem klt_ne {a b : ByteArray} (h : klt a b) : a ≠ b := fun e => klt_irrefl b (e ▸ h)
theorem klt_of_not {a b : ByteArray} (h : ¬ klt a b) (hne : a ≠ b) : klt b a := by
  by_cases k : klt b a
  · exact k
  · exact absurd (ba_inj (List.le_antisymm (List.not_lt.1 k) (List.not_lt.1 h))) hne
theorem less_klt (a b : ByteArray) : Op.bytesLess a.toList b.toList = true ↔ klt a b := by
  rw [Lib.toList_data, Lib.toList_data, Go.Proofs.bytesLess_eq, decide_eq_true_eq]
  rfl
theorem less_not (a b : ByteArray) : Op.bytesLess a.toList b.toList = false ↔ ¬ klt a b := by
  rw [← less_klt]
  simp
def lk (pl : List (ByteArray × ByteArray)) (k : ByteArray) : Option (List Int) := (pl.find? (fun p => decide (p.1 = k))).map (fun p => bytesOf p.2)
def Srt (pl : List (ByteArray × ByteArray)) : Prop := pl.Pairwise (fun a b => klt a.1 b.1)
structure Sim (S : BSt) (R : RSt) (n : Nat) : Prop where
  ver : S.ver = R.ver
  root : S.root = R.root
  outs : S.outs = R.outs
  calls : S.calls = R.calls
  look : ∀ k, S.m k = lk R.pl k
  srt : Srt R.pl
  size : ∀ p ∈ R.pl, p.1.size ≤ 40
  len : R.pl.length ≤ n
theorem Sim.o {S : BSt} {R : RSt} {n : Nat} (h : Sim S R n) : S.o = R.o := by
  unfold BSt.o RSt.o
  rw [h.outs]
  cases R.outs <;> rfl
theorem Sim.next {S : BSt} {R : RSt} {n : Nat} (h : Sim S R n) : Sim S.next R.next n :=
  ⟨h.ver, h.root, by simp [BSt.next, RSt.next, h.outs], by simp [BSt.next, RSt.next, h.calls], h.look, h.srt, h.size, h.len⟩
theorem Sim.mono {S : BSt} {R : RSt} {n m : Nat} (h : Sim S R n) (hm : n ≤ m) : Sim S R m := ⟨h.ver, h.root, h.outs, h.calls, h.look, h.srt, h.size, Nat.le_trans h.len hm⟩
theorem find_none {A : List (ByteArray × ByteArray)} {k : ByteArray} (h : ∀ p ∈ A, p.1 ≠ k) : A.find? (fun p => decide (p.1 = k)) = none := by
  rw [List.find?_eq_none]
  intro p hp
  simpa using h p hp
theorem place_split {pl : List (ByteArray × ByteArray)} {nm : ByteArray} {i : Nat} {there : Bool} (hs : Srt pl) (h : PlaceOf (pl.map (·.1)) nm i there) :
    i ≤ pl.length ∧ (∀ p ∈ pl.take i, klt p.1 nm) ∧ (there = false → ∀ p ∈ pl.drop i, klt nm p.1) ∧ (there = true → ∃ hi : i < pl.length, pl[i].1 = nm ∧ ∀ p ∈ pl.drop (i + 1), klt nm p.1) := by
  have hle : i ≤ pl.length := by have := h.le; rwa [List.length_map] at this
  have hA : ∀ p ∈ pl.take i, klt p.1 nm := fun p hp => by
    obtain ⟨j, hj, rfl⟩ := List.getElem_of_mem hp
    rw [List.length_take] at hj
    have := h.lt j (by rw [List.length_map]; omega) (by omega)
    rw [List.getElem_map, less_klt] at this
    rw [List.getElem_take]
    exact this
  rcases Nat.lt_or_ge i pl.length with hi | hi
  · obtain ⟨h1, h2⟩ := h.at_ (by rw [List.length_map]; exact hi)
    rw [List.getElem_map] at h1 h2
    rw [less_not] at h1
    have hd : pl.drop i = pl[i] :: pl.drop (i + 1) := List.drop_eq_getElem_cons hi
    have hsd : Srt (pl.drop i) := hs.sublist (List.drop_sublist _ _)
    rw [hd] at hsd
    have hrest := (List.pairwise_cons.1 hsd).1
    refine ⟨hle, hA, fun ht p hp => ?_, fun ht => ⟨hi, ?_⟩⟩
    · have hne : pl[i].1 ≠ nm := fun e => by
        rw [ht, e] at h2
        simp at h2
      have hk := klt_of_not h1 hne
      rw [hd] at hp
      rcases List.mem_cons.1 hp with rfl | hp
      · exact hk
      · exact klt_trans hk (hrest p hp)
    · have he : pl[i].1 = nm := by
        rw [ht] at h2
        have h3 : pl[i].1.toList = nm.toList := by simpa using h2.symm
        rw [Lib.toList_data, Lib.toList_data] at h3
        exact ba_inj h3
      exact ⟨he, fun p hp => he ▸ hrest p hp⟩
  · have hi' : i = pl.length := by omega
    have hf := h.off (by rw [List.length_map]; exact hi')
    refine ⟨hle, hA, fun _ p hp => ?_, fun ht => by rw [hf] at ht; cases ht⟩
    rw [List.drop_eq_nil_of_le hi] at hp
    cases hp
theorem lk_split {pl A B : List (ByteArray × ByteArray)} (h : pl = A ++ B) (k : ByteArray) : lk pl k = match A.find? (fun p => decide (p.1 = k)) with | some p => some (bytesOf p.2) | none => lk B k := by
  subst h
  unfold lk
  rw [List.find?_append]
  cases A.find? (fun p => decide (p.1 = k)) <;> rfl
theorem lk_cons (p : ByteArray × ByteArray) (B : List (ByteArray × ByteArray)) (k : ByteArray) : lk (p :: B) k = if p.1 = k then some (bytesOf p.2) else lk B k := by
  unfold lk
  rw [List.find?_cons]
  by_cases h : p.1 = k
  · simp [h]
  · simp [h]
theorem lk_none {B : List (ByteArray × ByteArray)} {k : ByteArray} (h : ∀ p ∈ B, p.1 ≠ k) : lk B k = none := by
  unfold lk
  rw [find_none h]
  rfl
theorem srt_mid {A B : List (ByteArray × ByteArray)} {nm b : ByteArray} (hA : Srt A) (hB : Srt B) (h1 : ∀ p ∈ A, klt p.1 nm) (h2 : ∀ p ∈ B, klt nm p.1) : Srt (A ++ (nm, b) :: B) :=
  List.pairwise_append.2 ⟨hA, List.pairwise_cons.2 ⟨h2, hB⟩, fun p hp q hq => by
    rcases List.mem_cons.1 hq with rfl | hq
    · exact h1 p hp
    · exact klt_trans (h1 p hp) (h2 q hq)⟩
/-- What a put leaves, and what a deletion leaves. -/
theorem put_look {pl : List (ByteArray × ByteArray)} {nm b : ByteArray} {i : Nat} {there : Bool} (hs : Srt pl) (h : PlaceOf (pl.map (·.1)) nm i there) :
    ∃ A B, (if there then pl.set i (nm, b) else pl.take i ++ (nm, b) :: pl.drop i) = A ++ (nm, b) :: B ∧ Srt (A ++ (nm, b) :: B) ∧ (∀ k, lk (A ++ (nm, b) :: B) k = if k = nm then some (bytesOf b) else lk pl k) ∧ (∀ p ∈ A ++ (nm, b) :: B, p ∈ pl ∨ p = (nm, b)) ∧ (A ++ (nm, b) :: B).length ≤ pl.length + 1 := by
  obtain ⟨hle, hA, hf, ht⟩ := place_split hs h
  have hSA : Srt (pl.take i) := hs.sublist (List.take_sublist _ _)
  have key : ∀ (B B0 : List (ByteArray × ByteArray)), pl = pl.take i ++ B0 → (∀ p ∈ B, klt nm p.1) → (∀ k, k ≠ nm → lk B0 k = lk B k) → ∀ k, lk (pl.take i ++ (nm, b) :: B) k = if k = nm then some (bytesOf b) else lk pl k := fun B B0 hpl hB hlk k => by
    rw [lk_split (A := pl.take i) (B := (nm, b) :: B) rfl]
    by_cases hk : k = nm
    · subst hk
      rw [find_none (fun p hp => klt_ne (hA p hp)), if_pos rfl, lk_cons, if_pos rfl]
    · rw [if_neg hk, lk_split hpl]
      cases (pl.take i).find? (fun p => decide (p.1 = k)) with
      | some p => rfl
      | none =>
        show lk ((nm, b) :: B) k = lk B0 k
        rw [lk_cons, if_neg (fun e => hk e.symm), hlk k hk]
  cases there with
  | false =>
    have hB := hf rfl
    refine ⟨pl.take i, pl.drop i, rfl, srt_mid hSA (hs.sublist (List.drop_sublist _ _)) hA hB, key _ _ (List.take_append_drop i pl).symm hB (fun _ _ => rfl), fun p hp => ?_, by simp; omega⟩
    rcases List.mem_append.1 hp with h1 | h1
    · exact .inl (List.mem_of_mem_take h1)
    · rcases List.mem_cons.1 h1 with h1 | h1
      · exact .inr h1
      · exact .inl (List.mem_of_mem_drop h1)
  | true =>
    obtain ⟨hi, he, hB⟩ := ht rfl
    have hset : pl.set i (nm, b) = pl.take i ++ (nm, b) :: pl.drop (i + 1) := by
      rw [List.set_eq_take_append_cons_drop, if_pos hi]
    have hpl : pl = pl.take i ++ pl[i] :: pl.drop (i + 1) := by rw [← List.drop_eq_getElem_cons hi, List.take_append_drop]
    refine ⟨pl.take i, pl.drop (i + 1), hset, srt_mid hSA (hs.sublist (List.drop_sublist _ _)) hA hB, key _ _ hpl hB (fun k hk => by rw [lk_cons, if_neg (fun e => hk (by rw [← e, he]))]), fun p hp => ?_, by simp; omega⟩
    rcases List.mem_append.1 hp with h1 | h1
    · exact .inl (List.mem_of_mem_take h1)
    · rcases List.mem_cons.1 h1 with h1 | h1
      · exact .inr h1
      · exact .inl (List.mem_of_mem_drop h1)
theorem del_look {pl : List (ByteArray × ByteArray)} {nm : ByteArray} {i : Nat} (hs : Srt pl) (h : PlaceOf (pl.map (·.1)) nm i true) : ∀ k, lk (pl.take i ++ pl.drop (i + 1)) k = if k = nm then none else lk pl k := fun k => by
  obtain ⟨hle, hA, hf, ht⟩ := place_split hs h
  obtain ⟨hi, he, hB⟩ := ht rfl
  have hpl : pl = pl.take i ++ pl[i] :: pl.drop (i + 1) := by rw [← List.drop_eq_getElem_cons hi, List.take_append_drop]
  rw [lk_split (A := pl.take i) (B := pl.drop (i + 1)) rfl]
  by_cases hk : k = nm
  · subst hk
    rw [find_none (fun p hp => klt_ne (hA p hp)), if_pos rfl]
    exact lk_none (fun p hp => (klt_ne (hB p hp)).symm)
  · rw [if_neg hk, lk_split hpl]
    cases (pl.take i).find? (fun p => decide (p.1 = k)) with
    | some p => rfl
    | none =>
      show lk (pl.drop (i + 1)) k = lk (pl[i] :: pl.drop (i + 1)) k
      rw [lk_cons, if_neg (fun e => hk (by rw [← e, he]))]
theorem get_look {pl : List (ByteArray × ByteArray)} {nm : ByteArray} {i : Nat} {there : Bool} (hs : Srt pl) (h : PlaceOf (pl.map (·.1)) nm i there) : (there = false → lk pl nm = none) ∧ (there = true → ∃ hi : i < pl.length, lk pl nm = some (bytesOf pl[i].2)) := by
  obtain ⟨hle, hA, hf, ht⟩ := place_split hs h
  refine ⟨fun h0 => ?_, fun h1 => ?_⟩
  · refine lk_none fun p hp => ?_
    rw [← List.take_append_drop i pl] at hp
    rcases List.mem_append.1 hp with h1 | h1
    · exact klt_ne (hA p h1)
    · exact (klt_ne (hf h0 p h1)).symm
  · obtain ⟨hi, he, _⟩ := ht h1
    have hpl : pl = pl.take i ++ pl[i] :: pl.drop (i + 1) := by rw [← List.drop_eq_getElem_cons hi, List.take_append_drop]
    refine ⟨hi, ?_⟩
    rw [lk_split hpl, find_none (fun p hp => klt_ne (hA p hp))]
    show lk (pl[i] :: pl.drop (i + 1)) nm = _
    rw [lk_cons, if_pos he]
theorem Sim.put {S : BSt} {R R' : RSt} {n : Nat} {nm b : ByteArray} {f : Int} (h : Sim S R n)
    (hr : (nameB nm = false ∧ R' = R ∧ f = 6) ∨ (nameB nm = true ∧ 60000 < b.size ∧ R' = R ∧ f = 14) ∨ (nameB nm = true ∧ b.size ≤ 60000 ∧ f = toldI R.o ∧ ((R.o = 1 ∧ R' = R.next) ∨ (R.o ≠ 1 ∧ ∃ i there, PlaceOf (R.pl.map (·.1)) nm i there ∧
        ((there = false ∧ R' = { R.next with pl := R.pl.take i ++ (nm, b) :: R.pl.drop i }) ∨ (there = true ∧ i < R.pl.length ∧ R' = { R.next with pl := R.pl.set i (nm, b) })))))) :
    (S.put nm (bytesOf b)).2 = f ∧ Sim (S.put nm (bytesOf b)).1 R' (n + 1) := by
  rcases hr with ⟨h1, rfl, rfl⟩ | ⟨h1, h2, rfl, rfl⟩ | ⟨h1, h2, rfl, h3⟩
  · rw [put_name h1]
    exact ⟨rfl, h.mono (Nat.le_succ _)⟩
  · have hp : S.put nm (bytesOf b) = (S, 14) := by unfold BSt.put; rw [h1, if_pos rfl, if_pos (by rw [bytesOf_length]; exact h2)]
    rw [hp]
    exact ⟨rfl, h.mono (Nat.le_succ _)⟩
  · have hp := BSt.put_val (S := S) (b := bytesOf b) h1 (by rw [bytesOf_length]; exact h2) h.o
    rw [hp]
    refine ⟨rfl, ?_⟩
    rcases h3 with ⟨h4, rfl⟩ | ⟨h4, i, there, hP, h5⟩
    · rw [if_pos h4]
      exact h.next.mono (Nat.le_succ _)
    · rw [if_neg h4]
      obtain ⟨A, B, e, hs, hl, hm, hlen⟩ := put_look (b := b) h.srt hP
      have hR : R' = { R.next with pl := A ++ (nm, b) :: B } := by
        rcases h5 with ⟨rfl, rfl⟩ | ⟨rfl, _, rfl⟩
        · rw [if_neg (by simp)] at e; rw [e]
        · rw [if_pos rfl] at e; rw [e]
      subst hR
      have hx := h.next
      refine ⟨hx.ver, hx.root, hx.outs, hx.calls, fun k => ?_, hs, fun p hp => ?_, Nat.le_trans hlen (Nat.succ_le_succ h.len)⟩
      · show (if k = nm then some (bytesOf b) else S.m k) = lk (A ++ (nm, b) :: B) k
        rw [hl k, h.look k]
      · rcases hm p hp with h6 | rfl
        · exact h.size p h6
        · exact nameB_size h1
theorem Sim.del {S : BSt} {R R' : RSt} {n : Nat} {nm : ByteArray} {f : Int} (h : Sim S R n)
    (hr : (nameB nm = false ∧ R' = R ∧ f = 6) ∨ (nameB nm = true ∧ f = toldI R.o ∧ ∃ i there, PlaceOf (R.pl.map (·.1)) nm i there ∧
        ((R.o ≠ 1 ∧ there = true ∧ i < R.pl.length ∧ R' = { R.next with pl := R.pl.take i ++ R.pl.drop (i + 1) }) ∨ ((R.o = 1 ∨ there = false) ∧ R' = R.next)))) :
    (S.del nm).2 = f ∧ Sim (S.del nm).1 R' n := by
  rcases hr with ⟨h1, rfl, rfl⟩ | ⟨h1, rfl, i, there, hP, h3⟩
  · rw [del_name h1]
    exact ⟨rfl, h⟩
  · have hp : S.del nm = (if S.o = 1 then S.next else S.next.set nm none, toldI S.o) := by unfold BSt.del; rw [h1, if_pos rfl]
    rw [hp, h.o]
    refine ⟨rfl, ?_⟩
    have hx := h.next
    rcases h3 with ⟨h4, rfl, hi, rfl⟩ | ⟨h4, rfl⟩
    · rw [if_neg h4]
      refine ⟨hx.ver, hx.root, hx.outs, hx.calls, fun k => ?_, ?_, fun p hp => ?_, ?_⟩
      · show (if k = nm then none else S.m k) = lk (R.pl.take i ++ R.pl.drop (i + 1)) k
        rw [del_look h.srt hP k, h.look k]
      · have hsub : (R.pl.take i ++ R.pl.drop (i + 1)).Sublist R.pl := by
          rw [← List.eraseIdx_eq_take_drop_succ]
          exact List.eraseIdx_sublist _ _
        exact h.srt.sublist hsub
      · rcases List.mem_append.1 hp with h6 | h6
        · exact h.size p (List.mem_of_mem_take h6)
        · exact h.size p (List.mem_of_mem_drop h6)
      · have := h.len
        show (R.pl.take i ++ R.pl.drop (i + 1)).length ≤ n
        simp
        omega
    · by_cases h1' : R.o = 1
      · rw [if_pos h1']
        exact hx
      · rw [if_neg h1']
        rcases h4 with h4 | rfl
        · exact absurd h4 h1'
        · have hn := (get_look h.srt hP).1 rfl
          refine ⟨hx.ver, hx.root, hx.outs, hx.calls, fun k => ?_, hx.srt, hx.size, hx.len⟩
          show (if k = nm then none else S.m k) = lk R.pl k
          by_cases hk : k = nm
          · rw [if_pos hk, hk, hn]
          · rw [if_neg hk, h.look k]
theorem Sim.get {S : BSt} {R R' : RSt} {n : Nat} {nm s : ByteArray} {f : Int} (h : Sim S R n)
    (hr : (nameB nm = false ∧ R' = R ∧ s = ⟨#[]⟩ ∧ f = 6) ∨ (nameB nm = true ∧ R' = R.next ∧ ((R.o ≠ 0 ∧ s = ⟨#[]⟩ ∧ f = 15) ∨ (R.o = 0 ∧ ∃ i there, PlaceOf (R.pl.map (·.1)) nm i there ∧ ((there = false ∧ s = ⟨#[]⟩ ∧ f = 7) ∨ (there = true ∧ i < R.pl.length ∧ s = R.at i ∧ f = 0)))))) :
    (S.get nm).2.2 = f ∧ strOfNums (S.get nm).2.1 = s ∧ Sim (S.get nm).1 R' n := by
  rcases hr with ⟨h1, rfl, rfl, rfl⟩ | ⟨h1, rfl, h3⟩
  · have hp : S.get nm = (S, [], 6) := by unfold BSt.get; rw [h1]; rfl
    rw [hp]
    exact ⟨rfl, rfl, h⟩
  · rcases h3 with ⟨h4, rfl, rfl⟩ | ⟨h4, i, there, hP, h5⟩
    · have hp : S.get nm = (S.next, [], 15) := by unfold BSt.get; rw [h1, if_pos rfl, if_pos (by rw [h.o]; exact h4)]
      rw [hp]
      exact ⟨rfl, rfl, h.next⟩
    · have hv := BSt.get_val (S := S) h1 (by rw [h.o]; exact h4)
      obtain ⟨g1, g2⟩ := get_look h.srt hP
      rcases h5 with ⟨rfl, rfl, rfl⟩ | ⟨rfl, hi, rfl, rfl⟩
      · rw [h.look nm, g1 rfl] at hv
        rw [hv]
        exact ⟨rfl, rfl, h.next⟩
      · obtain ⟨hi', g3⟩ := g2 rfl
        rw [h.look nm, g3] at hv
        rw [hv]
        refine ⟨rfl, ?_, h.next⟩
        show strOfNums (bytesOf R.pl[i].2) = _
        rw [str_bytes]
        unfold RSt.at
        rw [List.getElem?_map, List.getElem?_eq_getElem hi]
        rfl
theorem Sim.keys {S : BSt} {R : RSt} {n : Nat} (h : Sim S R n) : KeysOf S.m (R.pl.map (·.1)) := by
  refine ⟨?_, ?_, fun k _ => ?_, fun k hk => ?_⟩
  · exact List.pairwise_map.2 (h.srt.imp fun hab => klt_ne hab)
  · exact List.pairwise_map.2 (h.srt.imp fun hab => List.le_of_lt hab)
  · rw [h.look k]
    unfold lk
    rw [Option.isSome_map, List.find?_isSome]
    simp
  · obtain ⟨p, hp, rfl⟩ := List.mem_map.1 hk
    have := h.size p hp
    simp only [maxLen]
    omega
end
end Go.Proofs.YtcallfgihohldaaDoor.PA
namespace Go.Proofs.YtcallfgihohldaaDoor.PA
section

open Go.RowKit Go.Proofs.YtcallfgihohldaaDoorW.PrintWords Go.Proofs.YtcallfgihohldaaDoorW.PrintLast Go.Proofs.YtcallfgihohldaaDoorW.PrintMore
attribute [local go_sem] max2_int min2_int max_two min_two max_three min_three max_four min_four
set_option linter.unusedVariables false
set_option linter.unusedSimpArgs false
theorem nd_take {P : Program} {md : Region.Mode} {ops : Array Oper} {Q : Exit → Act → World → Prop} {S : World → Prop} {fuel : Nat} {listed : Array Bool} {a : Act} {w : World} (i : Nat) {oi : Oper} {v : Value} {a' : Act} (hS : S w)
    (h : wpAnyH P md ops Q S fuel (listed.setIfInBounds i true) a' w) (hi : ops[i]? = some oi := by rfl) (hs : Region.noSelect ops = true := by kernel_rfl) (hf : Region.free md ops listed i = true := by kernel_rfl) (hr : (Region.ready md ops listed).contains i = true := by kernel_rfl)
    (hQ : ∀ c a w, Q (.panic c) (a.put oi.dst v) w → Q (.panic c) a w := by exact fun _ _ _ h => h)
    (hy : YieldsIf P ops S oi v a := by exact Or.inl ⟨by rfl, by (intro w hSw; (try dsimp only at hSw); go_simp; try with_reducible rfl)⟩)
    (ha : a.put oi.dst v = a' := by (first | (simp only [Act.put, List.getElem_toArray, List.getElem_cons_zero, List.getElem_cons_succ, List.setIfInBounds_toArray, List.set_cons_zero, List.set_cons_succ]; done) | (simp only [Act.put, List.getElem_toArray, List.getElem_cons_zero, List.getElem_cons_succ, List.setIfInBounds_toArray, List.set_cons_zero, List.set_cons_succ]; rfl))) :
    wpAnyH P md ops Q S (fuel + 1) listed a w := by
  subst ha
  exact wpAnyH_take hi hs hf hr hQ hy hS h
theorem append_ran_step {P : Program} {ops : Array Oper} {o : Oper} {a : Act} {Kc : Act → World → Prop} {Q : Exit → Act → World → Prop} {w w' : World} (hw : Region.wanted o (yielded ops a.tmps) = true) (s x : Operand) (t : TypeId)
    (hop : o.op = Op.call { callee := Callee.builtin Builtin.append, args := #[s, x], argTypes := #[t, t] }) (v1 v2 v : Value) (hs : a.eval s = v1) (hx : a.eval x = v2)
    (hrun : (Builtin.append_ #[t, t] o.type #[v1, v2]).run P w = .ok v w') (h : Kc (a.put o.dst v) w') : if Region.wanted o (yielded ops a.tmps) = true then Oper.wp P o a w Kc Q else Kc (a.put o.dst undef) w := by
  rw [if_pos hw]
  unfold Oper.wp execOp
  simp only [hop, resolve, invoke, builtin, Sem.run_bind, Sem.run_pure, Result.andThen_ok, List.map_toArray, List.map_cons, List.map_nil, hs, hx, hrun]
  exact h
end
end Go.Proofs.YtcallfgihohldaaDoor.PA
namespace Go.Proofs.YtcallfgihohldaaDoor.PA
section

open Go.RowKit Go.Proofs.YtcallfgihohldaaDoorW.PrintWords Go.Proofs.YtcallfgihohldaaDoorW.PrintLast Go.Proofs.YtcallfgihohldaaDoorW.PrintMore
attribute [local go_sem] max2_int min2_int max_two min_two max_three min_three max_four min_four
set_option linter.unusedVariables false
set_option linter.unusedSimpArgs false
theorem ndl_take {P : Program} {md : Region.Mode} {ops : Array Oper} {Q : Exit → Act → World → Prop} {S : World → Prop} {ds : List Nat} {fuel : Nat} {listed : Array Bool} {a : Act} {w : World} (i : Nat) {oi : Oper} {v : Value} {a' : Act} (hS : S w)
    (h : wpAnyLast P md ops Q S ds fuel (listed.setIfInBounds i true) a' w) (hi : ops[i]? = some oi := by rfl) (hs : Region.noSelect ops = true := by kernel_rfl) (hf : Region.free md ops listed i = true := by kernel_rfl) (hr : (Region.ready md ops listed).contains i = true := by kernel_rfl)
    (hc : Region.closedB md ops listed = true := by kernel_rfl) (hl : Region.lastB md ops listed ds i = true := by kernel_rfl)
    (hQ : ∀ c a w, Q (.panic c) (a.put oi.dst v) w → Q (.panic c) a w := by exact fun _ _ _ h => h)
    (hy : YieldsIf P ops S oi v a := by exact Or.inl ⟨by rfl, by (intro w hSw; (try dsimp only at hSw); go_simp; try with_reducible rfl)⟩)
    (ha : a.put oi.dst v = a' := by (first | (simp only [Act.put, List.getElem_toArray, List.getElem_cons_zero, List.getElem_cons_succ, List.setIfInBounds_toArray, List.set_cons_zero, List.set_cons_succ]; done) | (simp only [Act.put, List.getElem_toArray, List.getElem_cons_zero, List.getElem_cons_succ, List.setIfInBounds_toArray, List.set_cons_zero, List.set_cons_succ]; rfl))) :
    wpAnyLast P md ops Q S ds (fuel + 1) listed a w := by
  subst ha
  exact wpAnyLast_take hi hs hf hr hc hl hQ hy hS h
abbrev Rows9 (V : World) (A : Option Addr) (L : List ByteArray) : Prop := 0 < L.length → ∃ ad, A = some ad ∧ ∀ j u, (L.map Value.string)[j]? = some u → V.cell? (ad.add j) = some u
/-- What the third append leaves. -/
def Rebuilt (W W3 : World) (v : Value) (L : List ByteArray) : Prop := W3.ownsRow W.heap.size 9 1 v L.length (L.map Value.string) ∧ Below W.heap.size W W3
theorem lit_rows {V : World} {gl : Nat} {x : ByteArray} (h : V.heap[gl]? = some (.cells #[.string x] 9 (0, 0))) : Rows9 V (some ⟨gl, 0, none⟩) [x] := fun _ => ⟨_, rfl, fun j u hu => by
  cases j with
  | zero =>
    rw [add_plain, blk_cell h]
    exact hu
  | succ j => simp at hu⟩
theorem rebuild3 {W : World} {A A2 : Option Addr} {P Q : List ByteArray} (hP : ∀ V, Below W.heap.size W V → Rows9 V A P) (hQ : ∀ V, Below W.heap.size W V → Rows9 V A2 Q) (hl : P.length + Q.length ≤ 900000) (c c2 : Nat) (x : ByteArray) :
    (∃ A1 c1 W1 B2 d2 W2 A3 c3 W3, (Builtin.append_ #[22, 22] 22 #[.slice (some ⟨W.heap.size, 0, none⟩) 0 0, .slice A P.length c]).run Tryd.prog (W.alloc (.cells #[] 9)) = .ok (.slice A1 P.length c1) W1 ∧
      (Builtin.append_ #[22, 22] 22 #[.slice A1 P.length c1, .slice (some ⟨W1.heap.size, 0, none⟩) 1 1]).run Tryd.prog (W1.alloc (.cells #[.string x] 9)) = .ok (.slice B2 (P ++ [x]).length d2) W2 ∧
      (Builtin.append_ #[22, 22] 22 #[.slice B2 (P ++ [x]).length d2, .slice A2 Q.length c2]).run Tryd.prog W2 = .ok (.slice A3 (P ++ [x] ++ Q).length c3) W3 ∧
      Aside0 (Rebuilt W W3 (.slice A3 (P ++ [x] ++ Q).length c3) (P ++ [x] ++ Q)) ∧ Aside0 (Below W.heap.size W W1) ∧ Aside0 (Below W.heap.size W W2)) ∧
    (∃ A1 c1 W1 B2 d2 W2 A3 c3 W3, (Builtin.append_ #[22, 22] 22 #[.slice (some ⟨W.heap.size, 0, none⟩) 0 0, .slice A P.length c]).run Tryd.prog ((W.alloc (.cells #[] 9)).alloc (.cells #[.string x] 9)) = .ok (.slice A1 P.length c1) W1 ∧
      (Builtin.append_ #[22, 22] 22 #[.slice A1 P.length c1, .slice (some ⟨W.heap.size + 1, 0, none⟩) 1 1]).run Tryd.prog W1 = .ok (.slice B2 (P ++ [x]).length d2) W2 ∧
      (Builtin.append_ #[22, 22] 22 #[.slice B2 (P ++ [x]).length d2, .slice A2 Q.length c2]).run Tryd.prog W2 = .ok (.slice A3 (P ++ [x] ++ Q).length c3) W3 ∧
      Aside0 (Rebuilt W W3 (.slice A3 (P ++ [x] ++ Q).length c3) (P ++ [x] ++ Q)) ∧ Aside0 (Below W.heap.size W W1) ∧ Aside0 (Below W.heap.size W W2)) ∧
    (∃ A1 c1 W1 B2 d2 W2 A3 c3 W3, (Builtin.append_ #[22, 22] 22 #[.slice (some ⟨W.heap.size + 1, 0, none⟩) 0 0, .slice A P.length c]).run Tryd.prog ((W.alloc (.cells #[.string x] 9)).alloc (.cells #[] 9)) = .ok (.slice A1 P.length c1) W1 ∧
      (Builtin.append_ #[22, 22] 22 #[.slice A1 P.length c1, .slice (some ⟨W.heap.size, 0, none⟩) 1 1]).run Tryd.prog W1 = .ok (.slice B2 (P ++ [x]).length d2) W2 ∧
      (Builtin.append_ #[22, 22] 22 #[.slice B2 (P ++ [x]).length d2, .slice A2 Q.length c2]).run Tryd.prog W2 = .ok (.slice A3 (P ++ [x] ++ Q).length c3) W3 ∧
      Aside0 (Rebuilt W W3 (.slice A3 (P ++ [x] ++ Q).length c3) (P ++ [x] ++ Q)) ∧ Aside0 (Below W.heap.size W W1) ∧ Aside0 (Below W.heap.size W W2)) := by
  have hsz : ∀ o : Obj, (W.alloc o).heap.size = W.heap.size + 1 := fun o => by simp
  have hb1 : ∀ o : Obj, Below W.heap.size W (W.alloc o) := fun o => below_alloc (Below.refl _ _) o
  have lenPx : (P ++ [x]).length = P.length + 1 := by simp
  have third : ∀ {W2 : World} {B2 : Option Addr} {d2 : Nat}, W2.ownsRow W.heap.size 9 1 (.slice B2 (P ++ [x]).length d2) (P ++ [x]).length ((P ++ [x]).map Value.string) → Below W.heap.size W W2 →
      ∃ A3 c3 W3, (Builtin.append_ #[22, 22] 22 #[.slice B2 (P ++ [x]).length d2, .slice A2 Q.length c2]).run Tryd.prog W2 = .ok (.slice A3 (P ++ [x] ++ Q).length c3) W3 ∧ Aside0 (Rebuilt W W3 (.slice A3 (P ++ [x] ++ Q).length c3) (P ++ [x] ++ Q)) := fun {W2 B2 d2} ho hB => by
    obtain ⟨A3, c3, W3, r3, o3, g3⟩ := app9 ho hB.size A2 c2 Q (hQ _ hB) (by rw [lenPx]; omega) 22
    exact ⟨A3, c3, W3, r3, ⟨o3, hB.grown g3 hB.size (fun k hk => own_base ho k hk)⟩⟩
  have two : ∀ (V : World) (g gl : Nat), V.ownsRow W.heap.size 9 1 (.slice (some ⟨g, 0, none⟩) 0 0) 0 [] → V.heap[gl]? = some (.cells #[.string x] 9 (0, 0)) → gl ≠ g → W.heap.size ≤ g → Below W.heap.size W V →
      ∃ A1 c1 W1 B2 d2 W2 A3 c3 W3, (Builtin.append_ #[22, 22] 22 #[.slice (some ⟨g, 0, none⟩) 0 0, .slice A P.length c]).run Tryd.prog V = .ok (.slice A1 P.length c1) W1 ∧
      (Builtin.append_ #[22, 22] 22 #[.slice A1 P.length c1, .slice (some ⟨gl, 0, none⟩) 1 1]).run Tryd.prog W1 = .ok (.slice B2 (P ++ [x]).length d2) W2 ∧
      (Builtin.append_ #[22, 22] 22 #[.slice B2 (P ++ [x]).length d2, .slice A2 Q.length c2]).run Tryd.prog W2 = .ok (.slice A3 (P ++ [x] ++ Q).length c3) W3 ∧
      Aside0 (Rebuilt W W3 (.slice A3 (P ++ [x] ++ Q).length c3) (P ++ [x] ++ Q)) ∧ Aside0 (Below W.heap.size W W1) ∧ Aside0 (Below W.heap.size W W2) := fun V g gl h0 hl' hne hg hB => by
    obtain ⟨A1, c1, W1, r1, o1, g1⟩ := app9 (xs := []) h0 hB.size A c P (hP V hB) (by simp; omega) 22
    rw [List.nil_append] at r1 o1
    have hB1 : Below W.heap.size W W1 := hB.grown g1 hB.size (by simp [Value.ownBlock]; omega)
    have hl1 : W1.heap[gl]? = some (.cells #[.string x] 9 (0, 0)) := (g1.block gl (blk_lt hl') (by simp [Value.ownBlock]; omega)).trans hl'
    obtain ⟨B2, d2, W2, r2, o2, g2⟩ := app9 o1 hB1.size (some ⟨gl, 0, none⟩) 1 [x] (lit_rows hl1) (by simp; omega) 22
    have hB2 := hB1.grown g2 hB1.size (fun k hk => own_base o1 k hk)
    obtain ⟨A3, c3, W3, r3, o3⟩ := third o2 hB2
    exact ⟨A1, c1, W1, B2, d2, W2, A3, c3, W3, r1, r2, r3, o3, ⟨hB1⟩, ⟨hB2⟩⟩
  refine ⟨?_, ?_, ?_⟩
  · have h0 := World.ownsRow_made (e := 9) (size := 1) W #[] 0 (Nat.le_refl _) (Nat.zero_le _) (by simp)
    obtain ⟨A1, c1, W1, r1, o1, g1⟩ := app9 (xs := []) h0 (hb1 _).size A c P (hP _ (hb1 _)) (by simp; omega) 22
    rw [List.nil_append] at r1 o1
    have hB1 : Below W.heap.size W W1 := (hb1 _).grown g1 (hb1 _).size (by simp [Value.ownBlock])
    have hB1' := below_alloc hB1 (.cells #[.string x] 9)
    obtain ⟨B2, d2, W2, r2, o2, g2⟩ := app9 (o1.alloc (.cells #[.string x] 9)) hB1'.size (some ⟨W1.heap.size, 0, none⟩) 1 [x] (lit_rows (heap_alloc_new W1 _)) (by simp; omega) 22
    have hB2 := hB1'.grown g2 hB1'.size (fun k hk => own_base o1 k hk)
    obtain ⟨A3, c3, W3, r3, o3⟩ := third o2 hB2
    exact ⟨A1, c1, W1, B2, d2, W2, A3, c3, W3, r1, r2, r3, o3, ⟨hB1⟩, ⟨hB2⟩⟩
  · exact two _ W.heap.size (W.heap.size + 1) ((World.ownsRow_made (e := 9) (size := 1) W #[] 0 (Nat.le_refl _) (Nat.zero_le _) (by simp)).alloc _) (by have := heap_alloc_new (W.alloc (.cells #[] 9)) (.cells #[.string x] 9); rwa [hsz] at this) (by omega) (Nat.le_refl _) (below_alloc (hb1 _) _)
  · exact two _ (W.heap.size + 1) W.heap.size (by have := World.ownsRow_made (e := 9) (size := 1) (base := W.heap.size) (W.alloc (.cells #[.string x] 9)) #[] 0 (by rw [hsz]; omega) (Nat.zero_le _) (by simp); rwa [hsz] at this) ((Lib.alloc_old _ _ _ (by rw [hsz]; omega)).trans (heap_alloc_new W _)) (by omega) (by omega) (below_alloc (hb1 _) _)
/-- Two appends, for a deletion. -/
theorem rebuild2 {W : World} {A A2 : Option Addr} {P Q : List ByteArray} (hP : ∀ V, Below W.heap.size W V → Rows9 V A P) (hQ : ∀ V, Below W.heap.size W V → Rows9 V A2 Q) (hl : P.length + Q.length ≤ 900000) (c c2 : Nat) :
    ∃ A1 c1 W1 A3 c3 W3, (Builtin.append_ #[22, 22] 22 #[.slice (some ⟨W.heap.size, 0, none⟩) 0 0, .slice A P.length c]).run Tryd.prog (W.alloc (.cells #[] 9)) = .ok (.slice A1 P.length c1) W1 ∧
      (Builtin.append_ #[22, 22] 22 #[.slice A1 P.length c1, .slice A2 Q.length c2]).run Tryd.prog W1 = .ok (.slice A3 (P ++ Q).length c3) W3 ∧
      Aside0 (Rebuilt W W3 (.slice A3 (P ++ Q).length c3) (P ++ Q)) ∧ Aside0 (Below W.heap.size W W1) := by
  have hb1 : ∀ o : Obj, Below W.heap.size W (W.alloc o) := fun o => below_alloc (Below.refl _ _) o
  have h0 := World.ownsRow_made (e := 9) (size := 1) W #[] 0 (Nat.le_refl _) (Nat.zero_le _) (by simp)
  obtain ⟨A1, c1, W1, r1, o1, g1⟩ := app9 (xs := []) h0 (hb1 _).size A c P (hP _ (hb1 _)) (by simp; omega) 22
  rw [List.nil_append] at r1 o1
  have hB1 : Below W.heap.size W W1 := (hb1 _).grown g1 (hb1 _).size (by simp [Value.ownBlock])
  obtain ⟨A3, c3, W3, r3, o3, g3⟩ := app9 o1 hB1.size A2 c2 Q (hQ _ hB1) (by omega) 22
  exact ⟨A1, c1, W1, A3, c3, W3, r1, r3, ⟨o3, hB1.grown g3 hB1.size (fun k hk => own_base o1 k hk)⟩, ⟨hB1⟩⟩
/-- The two cuts of a list of strings. -/
theorem cuts {W : World} {A : Option Addr} {c : Nat} {L : List ByteArray} (hC : Kd.C Kd.string W A L.length L) (hc : L.length ≤ c) (i j : Nat) (hi : i ≤ L.length) (hj : j ≤ L.length) :
    ∃ (A2 : Option Addr), (∀ V : World, (Instr.slice 22 (.slice A L.length c) none (some (.int .i64 (i : Int))) none).run Tryd.prog V = .ok (.slice A (L.take i).length c) V) ∧ (∀ V : World, (Instr.slice 22 (.slice A L.length c) (some (.int .i64 (j : Int))) none none).run Tryd.prog V = .ok (.slice A2 (L.drop j).length (c - j)) V) ∧
      (∀ V, Below W.heap.size W V → Rows9 V A (L.take i)) ∧ (∀ V, Below W.heap.size W V → Rows9 V A2 (L.drop j)) := by
  obtain ⟨inf, hi9, hzz⟩ := Option.map_eq_some_iff.1 info9'
  simp only [Prod.mk.injEq] at hzz
  have h22 : Tryd.prog.underlying 22 = some (.slice 9) := by kernel_rfl
  have hR := Kd.reads_of_C (enc := Value.string) (d := ByteArray.empty) (h1 := fun _ => rfl) hC
  obtain ⟨a1, a2, a3⟩ := print_take_of (P := Tryd.prog) Value.string ByteArray.empty 22 9 .i64 h22 hi9 hzz.2.1 A c L (i : Int) (Int.natCast_nonneg _) (by omega) hc
  obtain ⟨A2, b1, b2, b3⟩ := print_drop_of (P := Tryd.prog) Value.string ByteArray.empty 22 9 .i64 h22 hi9 hzz.2.1 A c L (j : Int) (Int.natCast_nonneg _) (by omega) hc
  rw [Int.toNat_natCast] at a1 a2 b1 b2
  refine ⟨A2, a1, b1, fun V hV h0 => ?_, fun V hV h0 => ?_⟩
  · exact str_row (Kd.C_below (Kd.C_of_reads (enc := Value.string) (h1 := fun _ => rfl) (a2 W hR)) hV) (by rw [List.length_map]; exact h0)
  · exact str_row (Kd.C_below (Kd.C_of_reads (enc := Value.string) (h1 := fun _ => rfl) (b2 W hR)) hV) (by rw [List.length_map]; exact h0)
end
end Go.Proofs.YtcallfgihohldaaDoor.PA
namespace Go.Proofs.YtcallfgihohldaaDoor.PA
section

open Go.RowKit Go.Proofs.YtcallfgihohldaaDoorW.PrintWords Go.Proofs.YtcallfgihohldaaDoorW.PrintLast Go.Proofs.YtcallfgihohldaaDoorW.PrintMore
attribute [local go_sem] max2_int min2_int max_two min_two max_three min_three max_four min_four
set_option linter.unusedVariables false
set_option linter.unusedSimpArgs false
/-- The document's store, its two lists told apart. -/
def RL (W : World) (G : Nat → Prop) (r : Nat) (NN BB : List ByteArray) (S : RSt) : Prop :=
  ∃ v0 v1 vo, W.heap[r]? = some (.cells #[v0, v1, .int .i64 S.ver, .string S.root, vo, .int .i64 S.calls] 48 (0, 0)) ∧ G r ∧ StrAt W G v0 NN ∧ StrAt W G v1 BB ∧ OutAt W G vo S.outs ∧ (∀ k, v0.ownBlock = some k → v1.ownBlock ≠ some k)
theorem StrAt.of_own {W W0 : World} {G : Nat → Prop} {v : Value} {M : List ByteArray} (h : W.ownsRow W0.heap.size 9 1 v M.length (M.map Value.string)) : StrAt W (fun k => G k ∨ (W0.heap.size ≤ k ∧ k < W.heap.size)) v M ∧ ∀ k, v.ownBlock = some k → W0.heap.size ≤ k := by
  refine ⟨?_, fun k hk => own_base h k hk⟩
  rcases h.2 with ⟨rfl, h0⟩ | ⟨q, cap, cur, rfl, hbg, hgb, hnc, hcm, hcs, htake⟩
  · exact .inl ⟨rfl, List.eq_nil_of_length_eq_zero h0⟩
  · refine .inr ⟨q, cap, cur, rfl, ⟨hnc, hcm⟩, .inr ⟨hbg, blk_lt hgb⟩, hgb, fun i hi => ?_⟩
    have h1 : (M.map Value.string)[i]? = some (.string M[i]) := by rw [List.getElem?_map, List.getElem?_eq_getElem hi]; rfl
    rw [← htake, List.getElem?_take] at h1
    split at h1
    · rw [← Array.getElem?_toList]; exact h1
    · cases h1
theorem StrAt.old {W : World} {G : Nat → Prop} {v : Value} {L : List ByteArray} (h : StrAt W G v L) : ∀ k, v.ownBlock = some k → k < W.heap.size := fun k hk => by
  rcases h with ⟨rfl, _⟩ | ⟨q, c, cs, rfl, _, _, h4, _⟩
  · simp [Value.ownBlock] at hk
  · simp only [Value.ownBlock, Option.some.injEq] at hk
    subst hk
    exact blk_lt h4
section
variable {wx wz W3 : World} {G : Nat → Prop} {r : Nat} {v0 v1 vo v : Value} {NN BB L : List ByteArray} {S : RSt}
theorem rl_end0 (hb : wx.heap[r]? = some (.cells #[v0, v1, .int .i64 S.ver, .string S.root, vo, .int .i64 S.calls] 48 (0, 0))) (hG : G r) (h0 : StrAt wx G v0 NN) (h1 : StrAt wx G v1 BB) (hO : OutAt wx G vo S.outs) (hne : ∀ k, v0.ownBlock = some k → v1.ownBlock ≠ some k)
    (hBz : Below wx.heap.size wx wz) (hR : Aside0 (Rebuilt wz W3 v L)) : Aside0 (∃ G', RL (W3.setCell ⟨r, 0, none⟩ v) G' r L BB S ∧ Went G G' wx (W3.setCell ⟨r, 0, none⟩ v)) := by
  obtain ⟨hown, hB3⟩ := hR.out
  have hB : Below wx.heap.size wx W3 := hBz.trans (hB3.mono hBz.size)
  have hb3 := (hB.block r (blk_lt hb)).trans hb
  have hg := grown_one W3 r 0 v
  have hk : ∀ k, k < W3.heap.size → k ≠ r → (W3.setCell ⟨r, 0, none⟩ v).heap[k]? = W3.heap[k]? := fun k hl hn => hg.block k hl (fun e => hn (Option.some.inj e))
  obtain ⟨hn1, hn2⟩ := StrAt.of_own (G := G) hown
  have hup : ∀ k, G k → k < wx.heap.size → (fun k => G k ∨ (wz.heap.size ≤ k ∧ k < W3.heap.size)) k := fun k h _ => .inl h
  refine ⟨_, ⟨v, v1, vo, heap_setCell_same W3 r 0 _ 48 v hb3, .inl hG, hn1.keep hb3 (by decide) hk, (h1.move (fun k cs _ h => hB.block k (blk_lt h)) hup).keep hb3 (by decide) hk, (hO.move (fun k cs _ h => hB.block k (blk_lt h)) hup).keep hb3 (by decide) hk, fun k hk1 hk2 => ?_⟩, ⟨⟨hg.os.trans hB.os, hg.tape.trans hB.tape, hg.output.trans hB.output, Nat.le_trans hB.size hg.size, fun k hk' hF => (hk k (Nat.lt_of_lt_of_le hk' hB.size) (fun e => hF (e ▸ hG))).trans (hB.block k hk')⟩, fun k hk' => ?_⟩⟩
  · have h3 := hn2 k hk1
    have h4 := h1.old k hk2
    have := hBz.size
    omega
  · rcases hk' with h | h
    · exact .inl h
    · exact .inr ⟨Nat.le_trans hBz.size h.1, Nat.lt_of_lt_of_le h.2 hg.size⟩
theorem rl_end1 (hb : wx.heap[r]? = some (.cells #[v0, v1, .int .i64 S.ver, .string S.root, vo, .int .i64 S.calls] 48 (0, 0))) (hG : G r) (h0 : StrAt wx G v0 NN) (h1 : StrAt wx G v1 BB) (hO : OutAt wx G vo S.outs) (hne : ∀ k, v0.ownBlock = some k → v1.ownBlock ≠ some k)
    (hBz : Below wx.heap.size wx wz) (hR : Aside0 (Rebuilt wz W3 v L)) : Aside0 (∃ G', RL (W3.setCell ⟨r, 1, none⟩ v) G' r NN L S ∧ Went G G' wx (W3.setCell ⟨r, 1, none⟩ v)) := by
  obtain ⟨hown, hB3⟩ := hR.out
  have hB : Below wx.heap.size wx W3 := hBz.trans (hB3.mono hBz.size)
  have hb3 := (hB.block r (blk_lt hb)).trans hb
  have hg := grown_one W3 r 1 v
  have hk : ∀ k, k < W3.heap.size → k ≠ r → (W3.setCell ⟨r, 1, none⟩ v).heap[k]? = W3.heap[k]? := fun k hl hn => hg.block k hl (fun e => hn (Option.some.inj e))
  obtain ⟨hn1, hn2⟩ := StrAt.of_own (G := G) hown
  have hup : ∀ k, G k → k < wx.heap.size → (fun k => G k ∨ (wz.heap.size ≤ k ∧ k < W3.heap.size)) k := fun k h _ => .inl h
  refine ⟨_, ⟨v0, v, vo, heap_setCell_same W3 r 1 _ 48 v hb3, .inl hG, (h0.move (fun k cs _ h => hB.block k (blk_lt h)) hup).keep hb3 (by decide) hk, hn1.keep hb3 (by decide) hk, (hO.move (fun k cs _ h => hB.block k (blk_lt h)) hup).keep hb3 (by decide) hk, fun k hk1 hk2 => ?_⟩, ⟨⟨hg.os.trans hB.os, hg.tape.trans hB.tape, hg.output.trans hB.output, Nat.le_trans hB.size hg.size, fun k hk' hF => (hk k (Nat.lt_of_lt_of_le hk' hB.size) (fun e => hF (e ▸ hG))).trans (hB.block k hk')⟩, fun k hk' => ?_⟩⟩
  · have h3 := hn2 k hk2
    have h4 := h0.old k hk1
    have := hBz.size
    omega
  · rcases hk' with h | h
    · exact .inl h
    · exact .inr ⟨Nat.le_trans hBz.size h.1, Nat.lt_of_lt_of_le h.2 hg.size⟩
theorem rl_store {q c i : Nat} {cs : Array Value} (hb : wx.heap[r]? = some (.cells #[v0, .slice (some ⟨q, 0, none⟩) BB.length c, .int .i64 S.ver, .string S.root, vo, .int .i64 S.calls] 48 (0, 0))) (hG : G r) (h0 : StrAt wx G v0 NN) (hO : OutAt wx G vo S.outs) (hne : ∀ k, v0.ownBlock = some k → (Value.slice (some ⟨q, 0, none⟩) BB.length c).ownBlock ≠ some k)
    (h2 : BB.length ≤ c ∧ c ≤ maxLen) (h3 : G q) (h4 : wx.heap[q]? = some (.cells cs 9 (0, 0))) (h5 : ∀ i (h : i < BB.length), cs[i]? = some (.string BB[i])) (hi : i < BB.length) (b : ByteArray) :
    RL (wx.setCell ⟨q, i, none⟩ (.string b)) G r NN (BB.set i b) S ∧ Went G G wx (wx.setCell ⟨q, i, none⟩ (.string b)) := by
  have hg := grown_one wx q i (.string b)
  have hk : ∀ k, k < wx.heap.size → k ≠ q → (wx.setCell ⟨q, i, none⟩ (.string b)).heap[k]? = wx.heap[k]? := fun k hl hn => hg.block k hl (fun e => hn (Option.some.inj e))
  have hrq : r ≠ q := fun e => by
    subst e
    rw [hb] at h4
    injection h4 with h4; injection h4 with _ h6
    cases h6
  refine ⟨⟨v0, .slice (some ⟨q, 0, none⟩) BB.length c, vo, (hk r (blk_lt hb) hrq).trans hb, hG, ?_, ?_, hO.keep h4 (by decide) hk, hne⟩, ⟨Chg.grown hg h3, fun k h => .inl h⟩⟩
  · rcases h0 with h | ⟨q0, c0, cs0, rfl, g2, g3, g4, g5⟩
    · exact .inl h
    · refine .inr ⟨q0, c0, cs0, rfl, g2, g3, (hk q0 (blk_lt g4) (fun e => ?_)).trans g4, g5⟩
      exact hne q0 rfl (by rw [e]; rfl)
  · refine .inr ⟨q, c, cs.setIfInBounds i (.string b), by rw [List.length_set], by rw [List.length_set]; exact h2, h3, heap_setCell_same wx q i cs 9 (.string b) h4, fun j hj => ?_⟩
    rw [List.length_set] at hj
    by_cases e : i = j
    · subst e
      have : i < cs.size := by
        rcases Nat.lt_or_ge i cs.size with h | h
        · exact h
        · have := h5 i hi
          rw [Array.getElem?_eq_none h] at this
          cases this
      rw [Array.getElem?_setIfInBounds_self_of_lt this, List.getElem_set_self]
    · rw [Array.getElem?_setIfInBounds_ne e, h5 j hj, List.getElem_set_ne e]
end
set_option maxHeartbeats 16000000 in
set_option maxRecDepth 100000 in
theorem rput_calls {W : World} {G : Nat → Prop} {r : Nat} {S : RSt} (h : RAt W G r S) (hn : S.pl.length ≤ 800000) (nm b : ByteArray) :
    Calls Tryd.prog 30 #[.pointer (some ⟨r, 0, none⟩), .string nm, .string b] W fun e W' => ∃ (R' : RSt) (G' : Nat → Prop) (f : Int), e = .returned (.int .i64 f) ∧ RAt W' G' r R' ∧ Went G G' W W' ∧
      ((nameB nm = false ∧ R' = S ∧ f = 6) ∨ (nameB nm = true ∧ 60000 < b.size ∧ R' = S ∧ f = 14) ∨ (nameB nm = true ∧ b.size ≤ 60000 ∧ f = toldI S.o ∧ ((S.o = 1 ∧ R' = S.next) ∨ (S.o ≠ 1 ∧ ∃ i there, PlaceOf (S.pl.map (·.1)) nm i there ∧
        ((there = false ∧ R' = { S.next with pl := S.pl.take i ++ (nm, b) :: S.pl.drop i }) ∨ (there = true ∧ i < S.pl.length ∧ R' = { S.next with pl := S.pl.set i (nm, b) })))))) := by
  have KN := Aside0.mk (refName_calls nm W)
  cases hB : nameB nm <;> rw [hB] at KN
  · have X := Aside0.mk h
    clear h hB
    go_enter Tryd.func30, Tryd.ntmps30
    go_wp2_with (first | (go_at_call 16; refine KN.out.mono ?_; rintro e w1 ⟨rfl, hw⟩; have Xw := Aside0.mk hw; clear hw) | fail)
    go_ret
    exact ⟨S, G, _, rfl, X.out.below Xw.out, Went.of Xw.out, .inl ⟨by simp, rfl, rfl⟩⟩
  have Xh := Aside0.mk h
  have XK := Aside0.mk (fun w1 => rtake_went (w1 := w1) h)
  have XN0 := Aside0.mk hn
  by_cases hl : 60000 < b.size
  · have d1 : decide ((60000 : Int) < (b.size : Int)) = true := decide_eq_true (by omega)
    have XL := Aside0.mk hl
    clear h hB hl hn
    go_enter Tryd.func30, Tryd.ntmps30
    go_wp2_with (first | (go_at_call 16; refine KN.out.mono ?_; rintro e w1 ⟨rfl, hw⟩; have Xw := Aside0.mk hw; clear hw) | fail)
    go_ret
    exact ⟨S, G, _, rfl, Xh.out.below Xw.out, Went.of Xw.out, .inr (.inl ⟨by simp, XL.out, rfl, rfl⟩)⟩
  have d1 : decide ((60000 : Int) < (b.size : Int)) = false := decide_eq_false (by omega)
  have XL := Aside0.mk (show b.size ≤ 60000 by omega)
  obtain ⟨o, ho⟩ : ∃ o, o = S.o := ⟨_, rfl⟩
  rw [← ho] at XK ⊢
  clear h hB hl hn ho
  by_cases h1 : o = 1
  · have hb1 : (o != 1) = false := by simp [h1]
    have X1 := Aside0.mk h1
    clear h1
    go_enter Tryd.func30, Tryd.ntmps30
    go_wp2_with (first | (go_at_call 16; refine KN.out.mono ?_; rintro e w1 ⟨rfl, hw⟩; have Xw := Aside0.mk hw; clear hw) | (go_at_call 47; refine (XK.out _ Xw.out).mono ?_; rintro e w2 ⟨rfl, hb2, hW2⟩; have XW := Aside0.mk hW2; have Xb2 := Aside0.mk hb2; clear hb2 hW2) | (go_at_call 49; refine (rtold_calls _ _).mono ?_; rintro e w3 ⟨rfl, rfl⟩) | fail)
    go_ret
    exact ⟨S.next, G, _, rfl, Xb2.out, XW.out, .inr (.inr ⟨by simp, XL.out, rfl, .inl ⟨X1.out, rfl⟩⟩)⟩
  have hb1 : (o != 1) = true := bne_iff_ne.2 h1
  have X1 := Aside0.mk h1
  clear h1
  obtain ⟨S1, hS1⟩ : ∃ S1, S1 = S.next := ⟨_, rfl⟩
  have hpl : S.pl = S1.pl := by rw [hS1]; rfl
  rw [← hS1] at XK ⊢
  rw [hpl] at XN0 ⊢
  clear hS1 hpl
  go_enter Tryd.func30, Tryd.ntmps30
  go_wp2_with (first | (go_at_call 16; refine KN.out.mono ?_; rintro e w1 ⟨rfl, hw⟩; have Xw := Aside0.mk hw; clear hw) | (go_at_call 47; refine (XK.out _ Xw.out).mono ?_; rintro e w2 ⟨rfl, hb2, hW2⟩; have XW := Aside0.mk hW2; have Xb2 := Aside0.mk hb2; clear hb2 hW2) | fail)
  refine (rplace_calls Xb2.out (by have := XN0.out; omega) nm).mono ?_
  rintro e w3 ⟨i, there, rfl, hP, hB3⟩
  have XP := Aside0.mk hP
  have XW3 := Aside0.mk (XW.out.trans (Went.of hB3))
  have XR0 := Aside0.mk (Xb2.out.below hB3)
  have HI0 : i ≤ S1.pl.length := by have := hP.le; rwa [List.length_map] at this
  obtain ⟨NN, hNN⟩ : ∃ L, L = S1.pl.map (·.1) := ⟨_, rfl⟩
  obtain ⟨BB, hBB⟩ : ∃ L, L = S1.pl.map (·.2) := ⟨_, rfl⟩
  have lN : NN.length = S1.pl.length := by rw [hNN, List.length_map]
  have lB : BB.length = S1.pl.length := by rw [hBB, List.length_map]
  have XRN : Aside0 (RL w3 G r NN BB S1) := ⟨by rw [hNN, hBB]; exact XR0.out⟩
  have EN := Aside0.mk hNN
  have EB := Aside0.mk hBB
  have LN := Aside0.mk lN
  have LB := Aside0.mk lB
  have LI := Aside0.mk HI0
  clear hP hB3 HI0 hNN hBB lN lB XR0 Xb2 XW
  cases there with
  | false =>
    go_upto_region 9 with fail
    go_cut [] (fun wy => Aside0 (∃ G', RL wy G' r (NN.take i ++ [nm] ++ NN.drop i) BB S1 ∧ Went G G' w3 wy))
    case first =>
      have XR := XRN
      have XN : Aside0 (NN.length ≤ 800000) := ⟨by rw [LN.out]; exact XN0.out⟩
      have HI : Aside0 (i ≤ NN.length) := ⟨by rw [LN.out]; exact LI.out⟩
      clear XRN XW3
      obtain ⟨v0, v1, vo, hb, hG, h0, h1, hO, hne⟩ := XR.out
      have XRL := Aside0.mk (And.intro hb (And.intro hG (And.intro h0 (And.intro h1 (And.intro hO hne)))))
      obtain ⟨A, c, rfl, hc, hC⟩ := h0.form
      obtain ⟨wz, hz⟩ : ∃ wz, wz = w3.drew := ⟨_, rfl⟩
      have hBz : Below w3.heap.size w3 wz := by rw [hz]; exact Below.drew (Below.refl _ _)
      have hsz : wz.heap.size = w3.heap.size := by rw [hz]; rfl
      have hbz : wz.heap[r]? = _ := (hBz.block r (blk_lt hb)).trans hb
      obtain ⟨A2, s1, s2, hP, hQ⟩ := cuts (Kd.C_below hC hBz) hc i i HI.out HI.out
      obtain ⟨P, eP⟩ : ∃ P, P = NN.take i := ⟨_, rfl⟩
      obtain ⟨Q, eQ⟩ : ∃ Q, Q = NN.drop i := ⟨_, rfl⟩
      rw [← eP] at s1 hP
      rw [← eQ] at s2 hQ
      have hlen : P.length + Q.length ≤ 900000 := by rw [eP, eQ, List.length_take, List.length_drop]; have := XN.out; omega
      obtain ⟨nl, hnl⟩ : ∃ nl, nl = NN.length := ⟨_, rfl⟩
      have hrow : ∀ V, Below wz.heap.size wz V → V.heap[r]? = _ := fun V hV => (hV.block r (blk_lt hbz)).trans hbz
      have cellS : ∀ V, Below wz.heap.size wz V → V.cell? ⟨r, 0, none⟩ = some (Value.slice A NN.length c) := fun V hV => blk_cell (hrow V hV) 0
      have frzS : ∀ V, Below wz.heap.size wz V → V.frozen? ⟨r, 0, none⟩ = false := fun V hV => blk_frozen (hrow V hV) 0
      rw [← hnl] at s1 s2 cellS
      obtain ⟨⟨A1a, c1a, W1a, B2a, d2a, W2a, A3a, c3a, W3a, a1, a2, a3, a4, a5, a6⟩, ⟨A1b, c1b, W1b, B2b, d2b, W2b, A3b, c3b, W3b, b1, b2, b3, b4, b5, b6⟩, ⟨A1e, c1e, W1e, B2e, d2e, W2e, A3e, c3e, W3e, e1, e2, e3, e4, e5, e6⟩⟩ := rebuild3 hP hQ hlen c (c - i) nm
      have jz := cellS _ (Below.refl _ _)
      have j0 := cellS _ (below_alloc (Below.refl _ _) (.cells #[] 9))
      have j2 := cellS _ (below_alloc (below_alloc (Below.refl _ _) (.cells #[] 9)) (.cells #[.string nm] 9))
      have j3 := cellS _ (below_alloc (Below.refl _ _) (.cells #[.string nm] 9))
      have j4 := cellS _ (below_alloc (below_alloc (Below.refl _ _) (.cells #[.string nm] 9)) (.cells #[] 9))
      have ja1 := cellS _ a5.out
      have ja1l := cellS _ (below_alloc a5.out (.cells #[.string nm] 9))
      have ja2 := cellS _ a6.out
      have ja3 := cellS _ a4.out.2
      have jb1 := cellS _ b5.out
      have jb2 := cellS _ b6.out
      have jb3 := cellS _ b4.out.2
      have je1 := cellS _ e5.out
      have je2 := cellS _ e6.out
      have je3 := cellS _ e4.out.2
      have hqa := Aside0.mk (And.intro ja3 (frzS _ a4.out.2))
      have hqb := Aside0.mk (And.intro jb3 (frzS _ b4.out.2))
      have hqe := Aside0.mk (And.intro je3 (frzS _ e4.out.2))
      have hEa := rl_end0 hb hG h0 h1 hO hne hBz a4
      have hEb := rl_end0 hb hG h0 h1 hO hne hBz b4
      have hEe := rl_end0 hb hG h0 h1 hO hne hBz e4
      rw [hsz] at a1 b1 b2 e1 e2
      obtain ⟨k1, hk1⟩ : ∃ k, k = P.length := ⟨_, rfl⟩
      obtain ⟨k2, hk2⟩ : ∃ k, k = (P ++ [nm]).length := ⟨_, rfl⟩
      obtain ⟨k3, hk3⟩ : ∃ k, k = (P ++ [nm] ++ Q).length := ⟨_, rfl⟩
      obtain ⟨kq, hkq⟩ : ∃ k, k = Q.length := ⟨_, rfl⟩
      rw [← hk1] at s1
      rw [← hkq] at s2
      rw [← hk1] at a1 a2 b1 b2 e1 e2
      rw [← hk2] at a2 a3 b2 b3 e2 e3
      rw [← hk3, ← hkq] at a3 b3 e3
      rw [← hk3] at hEa hEb hEe
      rw [eP, eQ] at hEa hEb hEe
      replace a1 := Aside0.mk a1
      replace a2 := Aside0.mk a2
      replace a3 := Aside0.mk a3
      replace b1 := Aside0.mk b1
      replace b2 := Aside0.mk b2
      replace b3 := Aside0.mk b3
      replace e1 := Aside0.mk e1
      replace e2 := Aside0.mk e2
      replace e3 := Aside0.mk e3
      clear hk1 hk2 hk3 hkq hnl eP eQ hP hQ hlen hrow cellS frzS hb hG h0 h1 hO hne hC hc hbz hBz hsz
      subst hz
      refine wp_region_last_drew (S := (fun V : World => V.cell? ⟨r, 0, none⟩ = some (Value.slice A nl c))) (ds := [21]) (by kernel_rfl) jz (fun hHeld => ?_)
      refine ndl_take 0 hHeld ?_
      refine ndl_take 2 hHeld ?_
      refine ndl_take 3 hHeld ?_
      refine ndl_take 4 hHeld ?_
      refine ndl_take 5 hHeld ?_
      refine ndl_take 6 hHeld ?_
      refine ndl_take 7 hHeld ?_
      refine ndl_take 9 hHeld ?_
      refine ndl_take 12 hHeld ?_
      refine ndl_take 13 hHeld ?_
      refine ndl_take 14 hHeld ?_
      refine ndl_take 15 hHeld ?_
      refine ndl_take 16 hHeld ?_
      refine ndl_take 17 hHeld ?_
      refine wpAnyLast_ready (rs := [1, 10]) (by kernel_rfl) (by simp) ?_
      refine (AllReadyL.cons rfl (by decide) (fun K hK => ?_) (AllReadyL.cons rfl (by decide) (fun K hK => ?_) AllReadyL.nil))
      · go_simp
        refine hK.out _ _ j0 (fun hNew => ?_)
        clear hK K hNew
        have hHeld : (fun V : World => V.cell? ⟨r, 0, none⟩ = some (Value.slice A nl c)) _ := j0
        refine wpAnyLast_ready (rs := [8, 10]) (by kernel_rfl) (by simp) ?_
        refine (AllReadyL.cons rfl (by decide) (fun K hK => ?_) (AllReadyL.cons rfl (by decide) (fun K hK => ?_) AllReadyL.nil))
        · refine append_ran_step (by rfl) (.tmp 29) (.tmp 35) 22 rfl _ _ _ rfl rfl a1.out ?_
          refine hK.out _ _ ja1 (fun hNew => ?_)
          clear hK K hNew
          have hHeld : (fun V : World => V.cell? ⟨r, 0, none⟩ = some (Value.slice A nl c)) _ := ja1
          refine wpAnyLast_ready (rs := [10]) (by kernel_rfl) (by simp) ?_
          refine (AllReadyL.cons rfl (by decide) (fun K hK => ?_) AllReadyL.nil)
          go_simp
          refine hK.out _ _ ja1l (fun hNew => ?_)
          clear hK K hNew
          have hHeld : (fun V : World => V.cell? ⟨r, 0, none⟩ = some (Value.slice A nl c)) _ := ja1l
          refine wpAnyLast_ready (rs := [11]) (by kernel_rfl) (by simp) ?_
          refine (AllReadyL.cons rfl (by decide) (fun K hK => ?_) AllReadyL.nil)
          refine append_ran_step (by rfl) (.tmp 36) (.tmp 38) 22 rfl _ _ _ rfl rfl a2.out ?_
          refine hK.out _ _ ja2 (fun hNew => ?_)
          clear hK K hNew
          have hHeld : (fun V : World => V.cell? ⟨r, 0, none⟩ = some (Value.slice A nl c)) _ := ja2
          refine wpAnyLast_ready (rs := [18]) (by kernel_rfl) (by simp) ?_
          refine (AllReadyL.cons rfl (by decide) (fun K hK => ?_) AllReadyL.nil)
          refine append_ran_step (by rfl) (.tmp 39) (.tmp 45) 22 rfl _ _ _ rfl rfl a3.out ?_
          refine hK.out _ _ ja3 (fun hNew => ?_)
          clear hK K hNew
          have hHeld : (fun V : World => V.cell? ⟨r, 0, none⟩ = some (Value.slice A nl c)) _ := ja3
          refine ndl_take 19 hHeld ?_
          refine ndl_take 20 hHeld ?_
          refine wpAnyLast_ready (rs := [21]) (by kernel_rfl) (by simp) ?_
          refine (AllReadyL.cons_last rfl (by decide) (fun K hK => ?_) AllReadyL.nil)
          have q_ := hqa.out.1
          have z_ := hqa.out.2
          go_simp
          refine hK.out _ _ ?_
          clear hK K q_ z_
          refine wpAnyLast_done (by kernel_rfl) ?_ _
          go_wp2_with fail
          go_meet
          exact hEa
        · go_simp
          refine hK.out _ _ j2 (fun hNew => ?_)
          clear hK K hNew
          have hHeld : (fun V : World => V.cell? ⟨r, 0, none⟩ = some (Value.slice A nl c)) _ := j2
          refine wpAnyLast_ready (rs := [8]) (by kernel_rfl) (by simp) ?_
          refine (AllReadyL.cons rfl (by decide) (fun K hK => ?_) AllReadyL.nil)
          refine append_ran_step (by rfl) (.tmp 29) (.tmp 35) 22 rfl _ _ _ rfl rfl b1.out ?_
          refine hK.out _ _ jb1 (fun hNew => ?_)
          clear hK K hNew
          have hHeld : (fun V : World => V.cell? ⟨r, 0, none⟩ = some (Value.slice A nl c)) _ := jb1
          refine wpAnyLast_ready (rs := [11]) (by kernel_rfl) (by simp) ?_
          refine (AllReadyL.cons rfl (by decide) (fun K hK => ?_) AllReadyL.nil)
          refine append_ran_step (by rfl) (.tmp 36) (.tmp 38) 22 rfl _ _ _ rfl rfl b2.out ?_
          refine hK.out _ _ jb2 (fun hNew => ?_)
          clear hK K hNew
          have hHeld : (fun V : World => V.cell? ⟨r, 0, none⟩ = some (Value.slice A nl c)) _ := jb2
          refine wpAnyLast_ready (rs := [18]) (by kernel_rfl) (by simp) ?_
          refine (AllReadyL.cons rfl (by decide) (fun K hK => ?_) AllReadyL.nil)
          refine append_ran_step (by rfl) (.tmp 39) (.tmp 45) 22 rfl _ _ _ rfl rfl b3.out ?_
          refine hK.out _ _ jb3 (fun hNew => ?_)
          clear hK K hNew
          have hHeld : (fun V : World => V.cell? ⟨r, 0, none⟩ = some (Value.slice A nl c)) _ := jb3
          refine ndl_take 19 hHeld ?_
          refine ndl_take 20 hHeld ?_
          refine wpAnyLast_ready (rs := [21]) (by kernel_rfl) (by simp) ?_
          refine (AllReadyL.cons_last rfl (by decide) (fun K hK => ?_) AllReadyL.nil)
          have q_ := hqb.out.1
          have z_ := hqb.out.2
          go_simp
          refine hK.out _ _ ?_
          clear hK K q_ z_
          refine wpAnyLast_done (by kernel_rfl) ?_ _
          go_wp2_with fail
          go_meet
          exact hEb
      · go_simp
        refine hK.out _ _ j3 (fun hNew => ?_)
        clear hK K hNew
        have hHeld : (fun V : World => V.cell? ⟨r, 0, none⟩ = some (Value.slice A nl c)) _ := j3
        refine wpAnyLast_ready (rs := [1]) (by kernel_rfl) (by simp) ?_
        refine (AllReadyL.cons rfl (by decide) (fun K hK => ?_) AllReadyL.nil)
        go_simp
        refine hK.out _ _ j4 (fun hNew => ?_)
        clear hK K hNew
        have hHeld : (fun V : World => V.cell? ⟨r, 0, none⟩ = some (Value.slice A nl c)) _ := j4
        refine wpAnyLast_ready (rs := [8]) (by kernel_rfl) (by simp) ?_
        refine (AllReadyL.cons rfl (by decide) (fun K hK => ?_) AllReadyL.nil)
        refine append_ran_step (by rfl) (.tmp 29) (.tmp 35) 22 rfl _ _ _ rfl rfl e1.out ?_
        refine hK.out _ _ je1 (fun hNew => ?_)
        clear hK K hNew
        have hHeld : (fun V : World => V.cell? ⟨r, 0, none⟩ = some (Value.slice A nl c)) _ := je1
        refine wpAnyLast_ready (rs := [11]) (by kernel_rfl) (by simp) ?_
        refine (AllReadyL.cons rfl (by decide) (fun K hK => ?_) AllReadyL.nil)
        refine append_ran_step (by rfl) (.tmp 36) (.tmp 38) 22 rfl _ _ _ rfl rfl e2.out ?_
        refine hK.out _ _ je2 (fun hNew => ?_)
        clear hK K hNew
        have hHeld : (fun V : World => V.cell? ⟨r, 0, none⟩ = some (Value.slice A nl c)) _ := je2
        refine wpAnyLast_ready (rs := [18]) (by kernel_rfl) (by simp) ?_
        refine (AllReadyL.cons rfl (by decide) (fun K hK => ?_) AllReadyL.nil)
        refine append_ran_step (by rfl) (.tmp 39) (.tmp 45) 22 rfl _ _ _ rfl rfl e3.out ?_
        refine hK.out _ _ je3 (fun hNew => ?_)
        clear hK K hNew
        have hHeld : (fun V : World => V.cell? ⟨r, 0, none⟩ = some (Value.slice A nl c)) _ := je3
        refine ndl_take 19 hHeld ?_
        refine ndl_take 20 hHeld ?_
        refine wpAnyLast_ready (rs := [21]) (by kernel_rfl) (by simp) ?_
        refine (AllReadyL.cons_last rfl (by decide) (fun K hK => ?_) AllReadyL.nil)
        have q_ := hqe.out.1
        have z_ := hqe.out.2
        go_simp
        refine hK.out _ _ ?_
        clear hK K q_ z_
        refine wpAnyLast_done (by kernel_rfl) ?_ _
        go_wp2_with fail
        go_meet
        exact hEe
    case rest =>
      obtain ⟨G2, hR2, hW2⟩ := hcut.out
      obtain ⟨N2, hN2⟩ : ∃ N2, N2 = NN.take i ++ [nm] ++ NN.drop i := ⟨_, rfl⟩
      rw [← hN2] at hR2
      have XRN2 := Aside0.mk hR2
      have XW4 := Aside0.mk (XW3.out.trans hW2)
      have EN2 := Aside0.mk hN2
      clear hcut hR2 hW2 hN2 XRN XW3
      go_upto_region 10 with fail
      go_cut [] (fun wy => Aside0 (∃ G', RL wy G' r N2 (BB.take i ++ [⟨#[]⟩] ++ BB.drop i) S1 ∧ Went G2 G' wc wy))
      case first =>
        have XR := XRN2
        have XN : Aside0 (BB.length ≤ 800000) := ⟨by rw [LB.out]; exact XN0.out⟩
        have HI : Aside0 (i ≤ BB.length) := ⟨by rw [LB.out]; exact LI.out⟩
        clear XRN2 XW4
        obtain ⟨v0, v1, vo, hb, hG, h0, h1, hO, hne⟩ := XR.out
        have XRL := Aside0.mk (And.intro hb (And.intro hG (And.intro h0 (And.intro h1 (And.intro hO hne)))))
        obtain ⟨A, c, rfl, hc, hC⟩ := h1.form
        obtain ⟨wz, hz⟩ : ∃ wz, wz = wc.drew := ⟨_, rfl⟩
        have hBz : Below wc.heap.size wc wz := by rw [hz]; exact Below.drew (Below.refl _ _)
        have hsz : wz.heap.size = wc.heap.size := by rw [hz]; rfl
        have hbz : wz.heap[r]? = _ := (hBz.block r (blk_lt hb)).trans hb
        obtain ⟨A2, s1, s2, hP, hQ⟩ := cuts (Kd.C_below hC hBz) hc i i HI.out HI.out
        obtain ⟨P, eP⟩ : ∃ P, P = BB.take i := ⟨_, rfl⟩
        obtain ⟨Q, eQ⟩ : ∃ Q, Q = BB.drop i := ⟨_, rfl⟩
        rw [← eP] at s1 hP
        rw [← eQ] at s2 hQ
        have hlen : P.length + Q.length ≤ 900000 := by rw [eP, eQ, List.length_take, List.length_drop]; have := XN.out; omega
        obtain ⟨nl, hnl⟩ : ∃ nl, nl = BB.length := ⟨_, rfl⟩
        have hrow : ∀ V, Below wz.heap.size wz V → V.heap[r]? = _ := fun V hV => (hV.block r (blk_lt hbz)).trans hbz
        have cellS : ∀ V, Below wz.heap.size wz V → V.cell? ⟨r, 1, none⟩ = some (Value.slice A BB.length c) := fun V hV => blk_cell (hrow V hV) 1
        have frzS : ∀ V, Below wz.heap.size wz V → V.frozen? ⟨r, 1, none⟩ = false := fun V hV => blk_frozen (hrow V hV) 1
        rw [← hnl] at s1 s2 cellS
        obtain ⟨⟨A1a, c1a, W1a, B2a, d2a, W2a, A3a, c3a, W3a, a1, a2, a3, a4, a5, a6⟩, ⟨A1b, c1b, W1b, B2b, d2b, W2b, A3b, c3b, W3b, b1, b2, b3, b4, b5, b6⟩, ⟨A1e, c1e, W1e, B2e, d2e, W2e, A3e, c3e, W3e, e1, e2, e3, e4, e5, e6⟩⟩ := rebuild3 hP hQ hlen c (c - i) (⟨#[]⟩ : ByteArray)
        have jz := cellS _ (Below.refl _ _)
        have j0 := cellS _ (below_alloc (Below.refl _ _) (.cells #[] 9))
        have j2 := cellS _ (below_alloc (below_alloc (Below.refl _ _) (.cells #[] 9)) (.cells #[.string (⟨#[]⟩ : ByteArray)] 9))
        have j3 := cellS _ (below_alloc (Below.refl _ _) (.cells #[.string (⟨#[]⟩ : ByteArray)] 9))
        have j4 := cellS _ (below_alloc (below_alloc (Below.refl _ _) (.cells #[.string (⟨#[]⟩ : ByteArray)] 9)) (.cells #[] 9))
        have ja1 := cellS _ a5.out
        have ja1l := cellS _ (below_alloc a5.out (.cells #[.string (⟨#[]⟩ : ByteArray)] 9))
        have ja2 := cellS _ a6.out
        have ja3 := cellS _ a4.out.2
        have jb1 := cellS _ b5.out
        have jb2 := cellS _ b6.out
        have jb3 := cellS _ b4.out.2
        have je1 := cellS _ e5.out
        have je2 := cellS _ e6.out
        have je3 := cellS _ e4.out.2
        have hqa := Aside0.mk (And.intro ja3 (frzS _ a4.out.2))
        have hqb := Aside0.mk (And.intro jb3 (frzS _ b4.out.2))
        have hqe := Aside0.mk (And.intro je3 (frzS _ e4.out.2))
        have hEa := rl_end1 hb hG h0 h1 hO hne hBz a4
        have hEb := rl_end1 hb hG h0 h1 hO hne hBz b4
        have hEe := rl_end1 hb hG h0 h1 hO hne hBz e4
        rw [hsz] at a1 b1 b2 e1 e2
        obtain ⟨k1, hk1⟩ : ∃ k, k = P.length := ⟨_, rfl⟩
        obtain ⟨k2, hk2⟩ : ∃ k, k = (P ++ [(⟨#[]⟩ : ByteArray)]).length := ⟨_, rfl⟩
        obtain ⟨k3, hk3⟩ : ∃ k, k = (P ++ [(⟨#[]⟩ : ByteArray)] ++ Q).length := ⟨_, rfl⟩
        obtain ⟨kq, hkq⟩ : ∃ k, k = Q.length := ⟨_, rfl⟩
        rw [← hk1] at s1
        rw [← hkq] at s2
        rw [← hk1] at a1 a2 b1 b2 e1 e2
        rw [← hk2] at a2 a3 b2 b3 e2 e3
        rw [← hk3, ← hkq] at a3 b3 e3
        rw [← hk3] at hEa hEb hEe
        rw [eP, eQ] at hEa hEb hEe
        replace a1 := Aside0.mk a1
        replace a2 := Aside0.mk a2
        replace a3 := Aside0.mk a3
        replace b1 := Aside0.mk b1
        replace b2 := Aside0.mk b2
        replace b3 := Aside0.mk b3
        replace e1 := Aside0.mk e1
        replace e2 := Aside0.mk e2
        replace e3 := Aside0.mk e3
        clear hk1 hk2 hk3 hkq hnl eP eQ hP hQ hlen hrow cellS frzS hb hG h0 h1 hO hne hC hc hbz hBz hsz
        subst hz
        refine wp_region_last_drew (S := (fun V : World => V.cell? ⟨r, 1, none⟩ = some (Value.slice A nl c))) (ds := [20]) (by kernel_rfl) jz (fun hHeld => ?_)
        refine ndl_take 0 hHeld ?_
        refine ndl_take 2 hHeld ?_
        refine ndl_take 3 hHeld ?_
        refine ndl_take 4 hHeld ?_
        refine ndl_take 5 hHeld ?_
        refine ndl_take 6 hHeld ?_
        refine ndl_take 7 hHeld ?_
        refine ndl_take 11 hHeld ?_
        refine ndl_take 12 hHeld ?_
        refine ndl_take 13 hHeld ?_
        refine ndl_take 14 hHeld ?_
        refine ndl_take 15 hHeld ?_
        refine ndl_take 16 hHeld ?_
        refine wpAnyLast_ready (rs := [1, 9]) (by kernel_rfl) (by simp) ?_
        refine (AllReadyL.cons rfl (by decide) (fun K hK => ?_) (AllReadyL.cons rfl (by decide) (fun K hK => ?_) AllReadyL.nil))
        · go_simp
          refine hK.out _ _ j0 (fun hNew => ?_)
          clear hK K hNew
          have hHeld : (fun V : World => V.cell? ⟨r, 1, none⟩ = some (Value.slice A nl c)) _ := j0
          refine wpAnyLast_ready (rs := [8, 9]) (by kernel_rfl) (by simp) ?_
          refine (AllReadyL.cons rfl (by decide) (fun K hK => ?_) (AllReadyL.cons rfl (by decide) (fun K hK => ?_) AllReadyL.nil))
          · refine append_ran_step (by rfl) (.tmp 50) (.tmp 56) 22 rfl _ _ _ rfl rfl a1.out ?_
            refine hK.out _ _ ja1 (fun hNew => ?_)
            clear hK K hNew
            have hHeld : (fun V : World => V.cell? ⟨r, 1, none⟩ = some (Value.slice A nl c)) _ := ja1
            refine wpAnyLast_ready (rs := [9]) (by kernel_rfl) (by simp) ?_
            refine (AllReadyL.cons rfl (by decide) (fun K hK => ?_) AllReadyL.nil)
            go_simp
            refine hK.out _ _ ja1l (fun hNew => ?_)
            clear hK K hNew
            have hHeld : (fun V : World => V.cell? ⟨r, 1, none⟩ = some (Value.slice A nl c)) _ := ja1l
            refine wpAnyLast_ready (rs := [10]) (by kernel_rfl) (by simp) ?_
            refine (AllReadyL.cons rfl (by decide) (fun K hK => ?_) AllReadyL.nil)
            refine append_ran_step (by rfl) (.tmp 57) (.tmp 58) 22 rfl _ _ _ rfl rfl a2.out ?_
            refine hK.out _ _ ja2 (fun hNew => ?_)
            clear hK K hNew
            have hHeld : (fun V : World => V.cell? ⟨r, 1, none⟩ = some (Value.slice A nl c)) _ := ja2
            refine wpAnyLast_ready (rs := [17]) (by kernel_rfl) (by simp) ?_
            refine (AllReadyL.cons rfl (by decide) (fun K hK => ?_) AllReadyL.nil)
            refine append_ran_step (by rfl) (.tmp 59) (.tmp 65) 22 rfl _ _ _ rfl rfl a3.out ?_
            refine hK.out _ _ ja3 (fun hNew => ?_)
            clear hK K hNew
            have hHeld : (fun V : World => V.cell? ⟨r, 1, none⟩ = some (Value.slice A nl c)) _ := ja3
            refine ndl_take 18 hHeld ?_
            refine ndl_take 19 hHeld ?_
            refine wpAnyLast_ready (rs := [20]) (by kernel_rfl) (by simp) ?_
            refine (AllReadyL.cons_last rfl (by decide) (fun K hK => ?_) AllReadyL.nil)
            have q_ := hqa.out.1
            have z_ := hqa.out.2
            go_simp
            refine hK.out _ _ ?_
            clear hK K q_ z_
            refine wpAnyLast_done (by kernel_rfl) ?_ _
            go_wp2_with fail
            go_meet
            exact hEa
          · go_simp
            refine hK.out _ _ j2 (fun hNew => ?_)
            clear hK K hNew
            have hHeld : (fun V : World => V.cell? ⟨r, 1, none⟩ = some (Value.slice A nl c)) _ := j2
            refine wpAnyLast_ready (rs := [8]) (by kernel_rfl) (by simp) ?_
            refine (AllReadyL.cons rfl (by decide) (fun K hK => ?_) AllReadyL.nil)
            refine append_ran_step (by rfl) (.tmp 50) (.tmp 56) 22 rfl _ _ _ rfl rfl b1.out ?_
            refine hK.out _ _ jb1 (fun hNew => ?_)
            clear hK K hNew
            have hHeld : (fun V : World => V.cell? ⟨r, 1, none⟩ = some (Value.slice A nl c)) _ := jb1
            refine wpAnyLast_ready (rs := [10]) (by kernel_rfl) (by simp) ?_
            refine (AllReadyL.cons rfl (by decide) (fun K hK => ?_) AllReadyL.nil)
            refine append_ran_step (by rfl) (.tmp 57) (.tmp 58) 22 rfl _ _ _ rfl rfl b2.out ?_
            refine hK.out _ _ jb2 (fun hNew => ?_)
            clear hK K hNew
            have hHeld : (fun V : World => V.cell? ⟨r, 1, none⟩ = some (Value.slice A nl c)) _ := jb2
            refine wpAnyLast_ready (rs := [17]) (by kernel_rfl) (by simp) ?_
            refine (AllReadyL.cons rfl (by decide) (fun K hK => ?_) AllReadyL.nil)
            refine append_ran_step (by rfl) (.tmp 59) (.tmp 65) 22 rfl _ _ _ rfl rfl b3.out ?_
            refine hK.out _ _ jb3 (fun hNew => ?_)
            clear hK K hNew
            have hHeld : (fun V : World => V.cell? ⟨r, 1, none⟩ = some (Value.slice A nl c)) _ := jb3
            refine ndl_take 18 hHeld ?_
            refine ndl_take 19 hHeld ?_
            refine wpAnyLast_ready (rs := [20]) (by kernel_rfl) (by simp) ?_
            refine (AllReadyL.cons_last rfl (by decide) (fun K hK => ?_) AllReadyL.nil)
            have q_ := hqb.out.1
            have z_ := hqb.out.2
            go_simp
            refine hK.out _ _ ?_
            clear hK K q_ z_
            refine wpAnyLast_done (by kernel_rfl) ?_ _
            go_wp2_with fail
            go_meet
            exact hEb
        · go_simp
          refine hK.out _ _ j3 (fun hNew => ?_)
          clear hK K hNew
          have hHeld : (fun V : World => V.cell? ⟨r, 1, none⟩ = some (Value.slice A nl c)) _ := j3
          refine wpAnyLast_ready (rs := [1]) (by kernel_rfl) (by simp) ?_
          refine (AllReadyL.cons rfl (by decide) (fun K hK => ?_) AllReadyL.nil)
          go_simp
          refine hK.out _ _ j4 (fun hNew => ?_)
          clear hK K hNew
          have hHeld : (fun V : World => V.cell? ⟨r, 1, none⟩ = some (Value.slice A nl c)) _ := j4
          refine wpAnyLast_ready (rs := [8]) (by kernel_rfl) (by simp) ?_
          refine (AllReadyL.cons rfl (by decide) (fun K hK => ?_) AllReadyL.nil)
          refine append_ran_step (by rfl) (.tmp 50) (.tmp 56) 22 rfl _ _ _ rfl rfl e1.out ?_
          refine hK.out _ _ je1 (fun hNew => ?_)
          clear hK K hNew
          have hHeld : (fun V : World => V.cell? ⟨r, 1, none⟩ = some (Value.slice A nl c)) _ := je1
          refine wpAnyLast_ready (rs := [10]) (by kernel_rfl) (by simp) ?_
          refine (AllReadyL.cons rfl (by decide) (fun K hK => ?_) AllReadyL.nil)
          refine append_ran_step (by rfl) (.tmp 57) (.tmp 58) 22 rfl _ _ _ rfl rfl e2.out ?_
          refine hK.out _ _ je2 (fun hNew => ?_)
          clear hK K hNew
          have hHeld : (fun V : World => V.cell? ⟨r, 1, none⟩ = some (Value.slice A nl c)) _ := je2
          refine wpAnyLast_ready (rs := [17]) (by kernel_rfl) (by simp) ?_
          refine (AllReadyL.cons rfl (by decide) (fun K hK => ?_) AllReadyL.nil)
          refine append_ran_step (by rfl) (.tmp 59) (.tmp 65) 22 rfl _ _ _ rfl rfl e3.out ?_
          refine hK.out _ _ je3 (fun hNew => ?_)
          clear hK K hNew
          have hHeld : (fun V : World => V.cell? ⟨r, 1, none⟩ = some (Value.slice A nl c)) _ := je3
          refine ndl_take 18 hHeld ?_
          refine ndl_take 19 hHeld ?_
          refine wpAnyLast_ready (rs := [20]) (by kernel_rfl) (by simp) ?_
          refine (AllReadyL.cons_last rfl (by decide) (fun K hK => ?_) AllReadyL.nil)
          have q_ := hqe.out.1
          have z_ := hqe.out.2
          go_simp
          refine hK.out _ _ ?_
          clear hK K q_ z_
          refine wpAnyLast_done (by kernel_rfl) ?_ _
          go_wp2_with fail
          go_meet
          exact hEe
      case rest =>
        obtain ⟨G3, hR3, hW3⟩ := hcut.out
        obtain ⟨BB2, hB2⟩ : ∃ N2, N2 = BB.take i ++ [(⟨#[]⟩ : ByteArray)] ++ BB.drop i := ⟨_, rfl⟩
        rw [← hB2] at hR3
        have XR := Aside0.mk hR3
        have XW5 := Aside0.mk (XW4.out.trans hW3)
        have EB2 := Aside0.mk hB2
        have LBI : Aside0 (i < BB2.length) := ⟨by rw [hB2]; have := LI.out; have := LB.out; simp; omega⟩
        clear hcut hR3 hW3 hB2 XRN2 XW4
        obtain ⟨v0, v1, vo, hb, hG, h0, h1, hO, hne⟩ := XR.out
        rcases h1 with ⟨_, h⟩ | ⟨q, c, cs, rfl, h2, h3, h4, h5⟩
        · exact absurd LBI.out (by rw [h]; simp)
        have hQ := rl_store hb hG h0 hO hne h2 h3 h4 h5 LBI.out b
        have c1 : wc.cell? ⟨r, 1, none⟩ = some (.slice (some ⟨q, 0, none⟩) BB2.length c) := blk_cell hb 1
        have qi : wc.cell? ⟨q, i, none⟩ = some (.string (BB2[i]'LBI.out)) := (blk_cell h4 i).trans (h5 i LBI.out)
        have fq : wc.frozen? ⟨q, i, none⟩ = false := blk_frozen h4 i
        obtain ⟨y, hy⟩ : ∃ y, y = BB2[i]'LBI.out := ⟨_, rfl⟩
        rw [← hy] at qi
        obtain ⟨nb, hnb⟩ : ∃ nb, nb = BB2.length := ⟨_, rfl⟩
        have p1 : (0 : Int) ≤ (i : Int) := Int.natCast_nonneg _
        have p2 : (i : Int) < (nb : Int) := by rw [hnb]; exact Int.ofNat_lt.2 LBI.out
        have p3 : i < nb := by omega
        rw [← hnb] at c1
        have XQ := Aside0.mk hQ
        clear hb hG h0 hO hne h2 h3 h4 h5 hQ hy hnb
        go_wp2_with (first | (go_at_call 49; refine (rtold_calls _ _).mono ?_; rintro e w9 ⟨rfl, rfl⟩) | fail)
        go_ret
        refine ⟨{ S1 with pl := S1.pl.take i ++ (nm, b) :: S1.pl.drop i }, G3, _, rfl, ?_, XW5.out.trans XQ.out.2, .inr (.inr ⟨by simp, XL.out, rfl, .inr ⟨X1.out, i, false, XP.out, .inl ⟨rfl, rfl⟩⟩⟩)⟩
        have h6 := XQ.out.1
        have e1 : N2 = (S1.pl.take i ++ (nm, b) :: S1.pl.drop i).map (·.1) := by rw [EN2.out, EN.out]; simp [List.map_take, List.map_drop]
        have e2 : BB2.set i b = (S1.pl.take i ++ (nm, b) :: S1.pl.drop i).map (·.2) := by
          have hl : (BB.take i).length = i := by rw [List.length_take]; have := LI.out; have := LB.out; omega
          rw [EB2.out, List.append_assoc, List.set_append_right _ _ (by omega), hl, Nat.sub_self, EB.out]
          simp [List.map_take, List.map_drop]
        rw [e1, e2] at h6
        exact h6
  | true =>
    obtain ⟨BB2, hB2⟩ : ∃ BB2, BB2 = BB := ⟨_, rfl⟩
    have hlt : i < S1.pl.length := by
      rcases Nat.lt_or_ge i S1.pl.length with h | h
      · exact h
      · have h1 := XP.out.off (by rw [List.length_map]; have := LI.out; omega)
        cases h1
    have XR : Aside0 (RL w3 G r NN BB2 S1) := by rw [hB2]; exact XRN
    have EB2 := Aside0.mk hB2
    have LLT := Aside0.mk hlt
    have LBI : Aside0 (i < BB2.length) := ⟨by rw [hB2, LB.out]; exact hlt⟩
    clear XRN hB2 hlt
    obtain ⟨v0, v1, vo, hb, hG, h0, h1, hO, hne⟩ := XR.out
    rcases h1 with ⟨_, h⟩ | ⟨q, c, cs, rfl, h2, h3, h4, h5⟩
    · exact absurd LBI.out (by rw [h]; simp)
    have hQ := rl_store hb hG h0 hO hne h2 h3 h4 h5 LBI.out b
    have c1 : w3.cell? ⟨r, 1, none⟩ = some (.slice (some ⟨q, 0, none⟩) BB2.length c) := blk_cell hb 1
    have qi : w3.cell? ⟨q, i, none⟩ = some (.string (BB2[i]'LBI.out)) := (blk_cell h4 i).trans (h5 i LBI.out)
    have fq : w3.frozen? ⟨q, i, none⟩ = false := blk_frozen h4 i
    obtain ⟨y, hy⟩ : ∃ y, y = BB2[i]'LBI.out := ⟨_, rfl⟩
    rw [← hy] at qi
    obtain ⟨nb, hnb⟩ : ∃ nb, nb = BB2.length := ⟨_, rfl⟩
    have p1 : (0 : Int) ≤ (i : Int) := Int.natCast_nonneg _
    have p2 : (i : Int) < (nb : Int) := by rw [hnb]; exact Int.ofNat_lt.2 LBI.out
    have p3 : i < nb := by omega
    rw [← hnb] at c1
    have XQ := Aside0.mk hQ
    clear hb hG h0 hO hne h2 h3 h4 h5 hQ hy hnb
    go_wp2_with (first | (go_at_call 49; refine (rtold_calls _ _).mono ?_; rintro e w9 ⟨rfl, rfl⟩) | fail)
    go_ret
    refine ⟨{ S1 with pl := S1.pl.set i (nm, b) }, G, _, rfl, ?_, XW3.out.trans XQ.out.2, .inr (.inr ⟨by simp, XL.out, rfl, .inr ⟨X1.out, i, true, XP.out, .inr ⟨rfl, LLT.out, rfl⟩⟩⟩)⟩
    have h6 := XQ.out.1
    have hlt := LLT.out
    have hat := (XP.out.at_ (by rw [List.length_map]; exact hlt)).2
    have hnm : (S1.pl[i]'hlt).1 = nm := by
      have h7 : ((S1.pl.map (fun p : ByteArray × ByteArray => p.1))[i]'(by rw [List.length_map]; exact hlt)).toList = nm.toList := by simpa using hat.symm
      rw [List.getElem_map] at h7
      rw [Lib.toList_data, Lib.toList_data] at h7
      exact ba_inj h7
    have e1 : NN = (S1.pl.set i (nm, b)).map (·.1) := by
      rw [EN.out, List.map_set]
      apply List.ext_getElem? 
      intro j
      by_cases e : i = j
      · subst e
        rw [List.getElem?_set_self (by rw [List.length_map]; exact hlt), List.getElem?_map, List.getElem?_eq_getElem hlt]
        exact congrArg some hnm
      · rw [List.getElem?_set_ne e]
    have e2 : BB2.set i b = (S1.pl.set i (nm, b)).map (·.2) := by rw [EB2.out, EB.out, List.map_set]
    rw [e1, e2] at h6
    exact h6
end
end Go.Proofs.YtcallfgihohldaaDoor.PA
namespace Go.Proofs.YtcallfgihohldaaDoor.PA
section

open Go.RowKit Go.Proofs.YtcallfgihohldaaDoorW.PrintWords Go.Proofs.YtcallfgihohldaaDoorW.PrintLast Go.Proofs.YtcallfgihohldaaDoorW.PrintMore
attribute [local go_sem] max2_int min2_int max_two min_two max_three min_three max_four min_four
set_option linter.unusedVariables false
set_option linter.unusedSimpArgs false
set_option maxHeartbeats 16000000 in
set_option maxRecDepth 100000 in
theorem rdel_calls {W : World} {G : Nat → Prop} {r : Nat} {S : RSt} (h : RAt W G r S) (hn : S.pl.length ≤ 800000) (nm : ByteArray) :
    Calls Tryd.prog 32 #[.pointer (some ⟨r, 0, none⟩), .string nm] W fun e W' => ∃ (R' : RSt) (G' : Nat → Prop) (f : Int), e = .returned (.int .i64 f) ∧ RAt W' G' r R' ∧ Went G G' W W' ∧
      ((nameB nm = false ∧ R' = S ∧ f = 6) ∨ (nameB nm = true ∧ f = toldI S.o ∧ ∃ i there, PlaceOf (S.pl.map (·.1)) nm i there ∧
        ((S.o ≠ 1 ∧ there = true ∧ i < S.pl.length ∧ R' = { S.next with pl := S.pl.take i ++ S.pl.drop (i + 1) }) ∨ ((S.o = 1 ∨ there = false) ∧ R' = S.next)))) := by
  have KN := Aside0.mk (refName_calls nm W)
  cases hB : nameB nm <;> rw [hB] at KN
  · have X := Aside0.mk h
    clear h hB
    go_enter Tryd.func32, Tryd.ntmps32
    go_wp2_with (first | (go_at_call 16; refine KN.out.mono ?_; rintro e w1 ⟨rfl, hw⟩; have Xw := Aside0.mk hw; clear hw) | fail)
    go_ret
    exact ⟨S, G, _, rfl, X.out.below Xw.out, Went.of Xw.out, .inl ⟨by simp, rfl, rfl⟩⟩
  have XK := Aside0.mk (fun w1 => rtake_went (w1 := w1) h)
  have XN0 := Aside0.mk hn
  obtain ⟨o, ho⟩ : ∃ o, o = S.o := ⟨_, rfl⟩
  rw [← ho] at XK ⊢
  clear hB ho
  obtain ⟨S1, hS1⟩ : ∃ S1, S1 = S.next := ⟨_, rfl⟩
  have hpl : S.pl = S1.pl := by rw [hS1]; rfl
  rw [← hS1] at XK ⊢
  rw [hpl] at XN0 ⊢
  clear hS1 hpl h hn
  go_enter Tryd.func32, Tryd.ntmps32
  go_wp2_with (first | (go_at_call 16; refine KN.out.mono ?_; rintro e w1 ⟨rfl, hw⟩; have Xw := Aside0.mk hw; clear hw) | (go_at_call 47; refine (XK.out _ Xw.out).mono ?_; rintro e w2 ⟨rfl, hb2, hW2⟩; have XW := Aside0.mk hW2; have Xb2 := Aside0.mk hb2; clear hb2 hW2) | fail)
  refine (rplace_calls Xb2.out (by have := XN0.out; omega) nm).mono ?_
  rintro e w3 ⟨i, there, rfl, hP, hB3⟩
  have XP := Aside0.mk hP
  have XW3 := Aside0.mk (XW.out.trans (Went.of hB3))
  have XR0 := Aside0.mk (Xb2.out.below hB3)
  clear hP hB3 Xb2 XW
  by_cases h1 : o = 1
  · have hb1 : (o != 1) = false := by simp [h1]
    have X1 := Aside0.mk h1
    clear h1
    go_wp2_with (first | (go_at_call 49; refine (rtold_calls _ _).mono ?_; rintro e w9 ⟨rfl, rfl⟩) | fail)
    go_ret
    exact ⟨S1, G, _, rfl, XR0.out, XW3.out, .inr ⟨by simp, rfl, i, there, XP.out, .inr ⟨.inl X1.out, rfl⟩⟩⟩
  have hb1 : (o != 1) = true := bne_iff_ne.2 h1
  have X1 := Aside0.mk h1
  clear h1
  cases there with
  | false =>
    go_wp2_with (first | (go_at_call 49; refine (rtold_calls _ _).mono ?_; rintro e w9 ⟨rfl, rfl⟩) | fail)
    go_ret
    exact ⟨S1, G, _, rfl, XR0.out, XW3.out, .inr ⟨by simp, rfl, i, false, XP.out, .inr ⟨.inr rfl, rfl⟩⟩⟩
  | true =>
    have hlt : i < S1.pl.length := by
      have h0 := XP.out.le
      rw [List.length_map] at h0
      rcases Nat.lt_or_ge i S1.pl.length with h | h
      · exact h
      · have h1 := XP.out.off (by rw [List.length_map]; omega)
        cases h1
    have LLT := Aside0.mk hlt
    have hi9 : i < 900000 := by have := XN0.out; omega
    obtain ⟨NN, hNN⟩ : ∃ L, L = S1.pl.map (·.1) := ⟨_, rfl⟩
    obtain ⟨BB, hBB⟩ : ∃ L, L = S1.pl.map (·.2) := ⟨_, rfl⟩
    have lN : NN.length = S1.pl.length := by rw [hNN, List.length_map]
    have lB : BB.length = S1.pl.length := by rw [hBB, List.length_map]
    have XRN : Aside0 (RL w3 G r NN BB S1) := ⟨by rw [hNN, hBB]; exact XR0.out⟩
    have EN := Aside0.mk hNN
    have EB := Aside0.mk hBB
    have LN := Aside0.mk lN
    have LB := Aside0.mk lB
    clear hNN hBB lN lB XR0 hlt
    go_upto_region 6 with fail
    go_cut [] (fun wy => Aside0 (∃ G', RL wy G' r (NN.take i ++ NN.drop (i + 1)) BB S1 ∧ Went G G' w3 wy))
    case first =>
      have XR := XRN
      have XN : Aside0 (NN.length ≤ 800000) := ⟨by rw [LN.out]; exact XN0.out⟩
      have HI : Aside0 (i ≤ NN.length) := ⟨by rw [LN.out]; exact Nat.le_of_lt LLT.out⟩
      have HJ : Aside0 (i + 1 ≤ NN.length) := ⟨by rw [LN.out]; exact LLT.out⟩
      clear XRN XW3
      obtain ⟨v0, v1, vo, hb, hG, h0, h1, hO, hne⟩ := XR.out
      have XRL := Aside0.mk (And.intro hb (And.intro hG (And.intro h0 (And.intro h1 (And.intro hO hne)))))
      obtain ⟨A, c, rfl, hc, hC⟩ := h0.form
      obtain ⟨wz, hz⟩ : ∃ wz, wz = w3.drew := ⟨_, rfl⟩
      have hBz : Below w3.heap.size w3 wz := by rw [hz]; exact Below.drew (Below.refl _ _)
      have hsz : wz.heap.size = w3.heap.size := by rw [hz]; rfl
      have hbz : wz.heap[r]? = _ := (hBz.block r (blk_lt hb)).trans hb
      obtain ⟨A2, s1, s2, hP, hQ⟩ := cuts (Kd.C_below hC hBz) hc i (i + 1) HI.out HJ.out
      obtain ⟨P, eP⟩ : ∃ P, P = NN.take i := ⟨_, rfl⟩
      obtain ⟨Q, eQ⟩ : ∃ Q, Q = NN.drop (i + 1) := ⟨_, rfl⟩
      rw [← eP] at s1 hP
      rw [← eQ] at s2 hQ
      have hlen : P.length + Q.length ≤ 900000 := by rw [eP, eQ, List.length_take, List.length_drop]; have := XN.out; omega
      obtain ⟨nl, hnl⟩ : ∃ nl, nl = NN.length := ⟨_, rfl⟩
      have hrow : ∀ V, Below wz.heap.size wz V → V.heap[r]? = _ := fun V hV => (hV.block r (blk_lt hbz)).trans hbz
      have cellS : ∀ V, Below wz.heap.size wz V → V.cell? ⟨r, 0, none⟩ = some (Value.slice A NN.length c) := fun V hV => blk_cell (hrow V hV) 0
      have frzS : ∀ V, Below wz.heap.size wz V → V.frozen? ⟨r, 0, none⟩ = false := fun V hV => blk_frozen (hrow V hV) 0
      rw [← hnl] at s1 s2 cellS
      have hplus : (((i + 1 : Nat) : Int)) = (i : Int) + 1 := by omega
      rw [hplus] at s2
      clear hplus
      have hwr : IntKind.i64.wrap ((i : Int) + 1) = (i : Int) + 1 := by rw [IntKind.wrap_i64]; omega
      obtain ⟨A1a, c1a, W1a, A3a, c3a, W3a, a1, a3, a4, a5⟩ := rebuild2 hP hQ hlen c (c - (i + 1))
      have jz := cellS _ (Below.refl _ _)
      have j0 := cellS _ (below_alloc (Below.refl _ _) (.cells #[] 9))
      have ja1 := cellS _ a5.out
      have ja3 := cellS _ a4.out.2
      have hqa := Aside0.mk (And.intro ja3 (frzS _ a4.out.2))
      have hEa := rl_end0 hb hG h0 h1 hO hne hBz a4
      rw [hsz] at a1
      obtain ⟨k1, hk1⟩ : ∃ k, k = P.length := ⟨_, rfl⟩
      obtain ⟨k3, hk3⟩ : ∃ k, k = (P ++ Q).length := ⟨_, rfl⟩
      obtain ⟨kq, hkq⟩ : ∃ k, k = Q.length := ⟨_, rfl⟩
      rw [← hk1] at s1
      rw [← hkq] at s2
      rw [← hk1] at a1 a3
      rw [← hk3, ← hkq] at a3
      rw [← hk3] at hEa
      rw [eP, eQ] at hEa
      replace a1 := Aside0.mk a1
      replace a3 := Aside0.mk a3
      clear hk1 hk3 hkq hnl eP eQ hP hQ hlen hrow cellS frzS hb hG h0 h1 hO hne hC hc hbz hBz hsz
      subst hz
      refine wp_region_last_drew (S := (fun V : World => V.cell? ⟨r, 0, none⟩ = some (Value.slice A nl c))) (ds := [19]) (by kernel_rfl) jz (fun hHeld => ?_)
      refine ndl_take 0 hHeld ?_
      refine ndl_take 2 hHeld ?_
      refine ndl_take 3 hHeld ?_
      refine ndl_take 4 hHeld ?_
      refine ndl_take 5 hHeld ?_
      refine ndl_take 6 hHeld ?_
      refine ndl_take 7 hHeld ?_
      refine ndl_take 9 hHeld ?_
      refine ndl_take 10 hHeld ?_
      refine ndl_take 11 hHeld ?_
      refine ndl_take 12 hHeld ?_
      refine ndl_take 13 hHeld ?_
      refine ndl_take 14 hHeld ?_
      refine ndl_take 15 hHeld ?_
      refine wpAnyLast_ready (rs := [1]) (by kernel_rfl) (by simp) ?_
      refine (AllReadyL.cons rfl (by decide) (fun K hK => ?_) AllReadyL.nil)
      go_simp
      refine hK.out _ _ j0 (fun hNew => ?_)
      clear hK K hNew
      have hHeld : (fun V : World => V.cell? ⟨r, 0, none⟩ = some (Value.slice A nl c)) _ := j0
      refine wpAnyLast_ready (rs := [8]) (by kernel_rfl) (by simp) ?_
      refine (AllReadyL.cons rfl (by decide) (fun K hK => ?_) AllReadyL.nil)
      refine append_ran_step (by rfl) (.tmp 25) (.tmp 31) 22 rfl _ _ _ rfl rfl a1.out ?_
      refine hK.out _ _ ja1 (fun hNew => ?_)
      clear hK K hNew
      have hHeld : (fun V : World => V.cell? ⟨r, 0, none⟩ = some (Value.slice A nl c)) _ := ja1
      refine wpAnyLast_ready (rs := [16]) (by kernel_rfl) (by simp) ?_
      refine (AllReadyL.cons rfl (by decide) (fun K hK => ?_) AllReadyL.nil)
      refine append_ran_step (by rfl) (.tmp 32) (.tmp 39) 22 rfl _ _ _ rfl rfl a3.out ?_
      refine hK.out _ _ ja3 (fun hNew => ?_)
      clear hK K hNew
      have hHeld : (fun V : World => V.cell? ⟨r, 0, none⟩ = some (Value.slice A nl c)) _ := ja3
      refine ndl_take 17 hHeld ?_
      refine ndl_take 18 hHeld ?_
      refine wpAnyLast_ready (rs := [19]) (by kernel_rfl) (by simp) ?_
      refine (AllReadyL.cons_last rfl (by decide) (fun K hK => ?_) AllReadyL.nil)
      have q_ := hqa.out.1
      have z_ := hqa.out.2
      go_simp
      refine hK.out _ _ ?_
      clear hK K q_ z_
      refine wpAnyLast_done (by kernel_rfl) ?_ _
      go_wp2_with fail
      go_meet
      exact hEa
    case rest =>
      obtain ⟨G2, hR2, hW2⟩ := hcut.out
      obtain ⟨N2, hN2⟩ : ∃ N2, N2 = NN.take i ++ NN.drop (i + 1) := ⟨_, rfl⟩
      rw [← hN2] at hR2
      have XRN2 := Aside0.mk hR2
      have XW4 := Aside0.mk (XW3.out.trans hW2)
      have EN2 := Aside0.mk hN2
      clear hcut hR2 hW2 hN2 XRN XW3
      go_upto_region 7 with fail
      go_cut [] (fun wy => Aside0 (∃ G', RL wy G' r N2 (BB.take i ++ BB.drop (i + 1)) S1 ∧ Went G2 G' wc wy))
      case first =>
        have XR := XRN2
        have XN : Aside0 (BB.length ≤ 800000) := ⟨by rw [LB.out]; exact XN0.out⟩
        have HI : Aside0 (i ≤ BB.length) := ⟨by rw [LB.out]; exact Nat.le_of_lt LLT.out⟩
        have HJ : Aside0 (i + 1 ≤ BB.length) := ⟨by rw [LB.out]; exact LLT.out⟩
        clear XRN2 XW4
        obtain ⟨v0, v1, vo, hb, hG, h0, h1, hO, hne⟩ := XR.out
        have XRL := Aside0.mk (And.intro hb (And.intro hG (And.intro h0 (And.intro h1 (And.intro hO hne)))))
        obtain ⟨A, c, rfl, hc, hC⟩ := h1.form
        obtain ⟨wz, hz⟩ : ∃ wz, wz = wc.drew := ⟨_, rfl⟩
        have hBz : Below wc.heap.size wc wz := by rw [hz]; exact Below.drew (Below.refl _ _)
        have hsz : wz.heap.size = wc.heap.size := by rw [hz]; rfl
        have hbz : wz.heap[r]? = _ := (hBz.block r (blk_lt hb)).trans hb
        obtain ⟨A2, s1, s2, hP, hQ⟩ := cuts (Kd.C_below hC hBz) hc i (i + 1) HI.out HJ.out
        obtain ⟨P, eP⟩ : ∃ P, P = BB.take i := ⟨_, rfl⟩
        obtain ⟨Q, eQ⟩ : ∃ Q, Q = BB.drop (i + 1) := ⟨_, rfl⟩
        rw [← eP] at s1 hP
        rw [← eQ] at s2 hQ
        have hlen : P.length + Q.length ≤ 900000 := by rw [eP, eQ, List.length_take, List.length_drop]; have := XN.out; omega
        obtain ⟨nl, hnl⟩ : ∃ nl, nl = BB.length := ⟨_, rfl⟩
        have hrow : ∀ V, Below wz.heap.size wz V → V.heap[r]? = _ := fun V hV => (hV.block r (blk_lt hbz)).trans hbz
        have cellS : ∀ V, Below wz.heap.size wz V → V.cell? ⟨r, 1, none⟩ = some (Value.slice A BB.length c) := fun V hV => blk_cell (hrow V hV) 1
        have frzS : ∀ V, Below wz.heap.size wz V → V.frozen? ⟨r, 1, none⟩ = false := fun V hV => blk_frozen (hrow V hV) 1
        rw [← hnl] at s1 s2 cellS
        have hplus : (((i + 1 : Nat) : Int)) = (i : Int) + 1 := by omega
        rw [hplus] at s2
        clear hplus
        have hwr : IntKind.i64.wrap ((i : Int) + 1) = (i : Int) + 1 := by rw [IntKind.wrap_i64]; omega
        obtain ⟨A1a, c1a, W1a, A3a, c3a, W3a, a1, a3, a4, a5⟩ := rebuild2 hP hQ hlen c (c - (i + 1))
        have jz := cellS _ (Below.refl _ _)
        have j0 := cellS _ (below_alloc (Below.refl _ _) (.cells #[] 9))
        have ja1 := cellS _ a5.out
        have ja3 := cellS _ a4.out.2
        have hqa := Aside0.mk (And.intro ja3 (frzS _ a4.out.2))
        have hEa := rl_end1 hb hG h0 h1 hO hne hBz a4
        rw [hsz] at a1
        obtain ⟨k1, hk1⟩ : ∃ k, k = P.length := ⟨_, rfl⟩
        obtain ⟨k3, hk3⟩ : ∃ k, k = (P ++ Q).length := ⟨_, rfl⟩
        obtain ⟨kq, hkq⟩ : ∃ k, k = Q.length := ⟨_, rfl⟩
        rw [← hk1] at s1
        rw [← hkq] at s2
        rw [← hk1] at a1 a3
        rw [← hk3, ← hkq] at a3
        rw [← hk3] at hEa
        rw [eP, eQ] at hEa
        replace a1 := Aside0.mk a1
        replace a3 := Aside0.mk a3
        clear hk1 hk3 hkq hnl eP eQ hP hQ hlen hrow cellS frzS hb hG h0 h1 hO hne hC hc hbz hBz hsz
        subst hz
        refine wp_region_last_drew (S := (fun V : World => V.cell? ⟨r, 1, none⟩ = some (Value.slice A nl c))) (ds := [19]) (by kernel_rfl) jz (fun hHeld => ?_)
        refine ndl_take 0 hHeld ?_
        refine ndl_take 2 hHeld ?_
        refine ndl_take 3 hHeld ?_
        refine ndl_take 4 hHeld ?_
        refine ndl_take 5 hHeld ?_
        refine ndl_take 6 hHeld ?_
        refine ndl_take 7 hHeld ?_
        refine ndl_take 9 hHeld ?_
        refine ndl_take 10 hHeld ?_
        refine ndl_take 11 hHeld ?_
        refine ndl_take 12 hHeld ?_
        refine ndl_take 13 hHeld ?_
        refine ndl_take 14 hHeld ?_
        refine ndl_take 15 hHeld ?_
        refine wpAnyLast_ready (rs := [1]) (by kernel_rfl) (by simp) ?_
        refine (AllReadyL.cons rfl (by decide) (fun K hK => ?_) AllReadyL.nil)
        go_simp
        refine hK.out _ _ j0 (fun hNew => ?_)
        clear hK K hNew
        have hHeld : (fun V : World => V.cell? ⟨r, 1, none⟩ = some (Value.slice A nl c)) _ := j0
        refine wpAnyLast_ready (rs := [8]) (by kernel_rfl) (by simp) ?_
        refine (AllReadyL.cons rfl (by decide) (fun K hK => ?_) AllReadyL.nil)
        refine append_ran_step (by rfl) (.tmp 44) (.tmp 50) 22 rfl _ _ _ rfl rfl a1.out ?_
        refine hK.out _ _ ja1 (fun hNew => ?_)
        clear hK K hNew
        have hHeld : (fun V : World => V.cell? ⟨r, 1, none⟩ = some (Value.slice A nl c)) _ := ja1
        refine wpAnyLast_ready (rs := [16]) (by kernel_rfl) (by simp) ?_
        refine (AllReadyL.cons rfl (by decide) (fun K hK => ?_) AllReadyL.nil)
        refine append_ran_step (by rfl) (.tmp 51) (.tmp 58) 22 rfl _ _ _ rfl rfl a3.out ?_
        refine hK.out _ _ ja3 (fun hNew => ?_)
        clear hK K hNew
        have hHeld : (fun V : World => V.cell? ⟨r, 1, none⟩ = some (Value.slice A nl c)) _ := ja3
        refine ndl_take 17 hHeld ?_
        refine ndl_take 18 hHeld ?_
        refine wpAnyLast_ready (rs := [19]) (by kernel_rfl) (by simp) ?_
        refine (AllReadyL.cons_last rfl (by decide) (fun K hK => ?_) AllReadyL.nil)
        have q_ := hqa.out.1
        have z_ := hqa.out.2
        go_simp
        refine hK.out _ _ ?_
        clear hK K q_ z_
        refine wpAnyLast_done (by kernel_rfl) ?_ _
        go_wp2_with fail
        go_meet
        exact hEa
      case rest =>
        obtain ⟨G3, hR3, hW3⟩ := hcut.out
        have XR := Aside0.mk hR3
        have XW5 := Aside0.mk (XW4.out.trans hW3)
        clear hcut hR3 hW3 XRN2 XW4
        go_wp2_with (first | (go_at_call 49; refine (rtold_calls _ _).mono ?_; rintro e w9 ⟨rfl, rfl⟩) | fail)
        go_ret
        refine ⟨{ S1 with pl := S1.pl.take i ++ S1.pl.drop (i + 1) }, G3, _, rfl, ?_, XW5.out, .inr ⟨by simp, rfl, i, true, XP.out, .inl ⟨X1.out, rfl, LLT.out, rfl⟩⟩⟩
        have h6 := XR.out
        have e1 : N2 = (S1.pl.take i ++ S1.pl.drop (i + 1)).map (·.1) := by rw [EN2.out, EN.out]; simp [List.map_take, List.map_drop]
        have e2 : BB.take i ++ BB.drop (i + 1) = (S1.pl.take i ++ S1.pl.drop (i + 1)).map (·.2) := by rw [EB.out]; simp [List.map_take, List.map_drop]
        rw [e1, e2] at h6
        exact h6
end
end Go.Proofs.YtcallfgihohldaaDoor.PA
namespace Go.Proofs.YtcallfgihohldaaDoor.PA
section

open Go.RowKit Go.Proofs.YtcallfgihohldaaDoorW.PrintWords Go.Proofs.YtcallfgihohldaaDoorW.PrintLast Go.Proofs.YtcallfgihohldaaDoorW.PrintMore
attribute [local go_sem] max2_int min2_int max_two min_two max_three min_three max_four min_four
set_option linter.unusedVariables false
set_option linter.unusedSimpArgs false
def RSt.swap (S : RSt) (v : Int) (n : ByteArray) : RSt × Int :=
  if nameB n then (if S.o ≠ 1 ∧ v = S.ver then { S.next with ver := wrap64 (v + 1), root := n } else S.next, if S.o = 0 ∧ v ≠ S.ver then 17 else toldI S.o) else (S, 6)
theorem rswap_end {w2 : World} {G : Nat → Prop} {r : Nat} {S1 : RSt} {v0 v1 vo : Value} (hb : w2.heap[r]? = some (.cells #[v0, v1, .int .i64 S1.ver, .string S1.root, vo, .int .i64 S1.calls] 48 (0, 0)))
    (hG : G r) (h0 : StrAt w2 G v0 (S1.pl.map (·.1))) (h1 : StrAt w2 G v1 (S1.pl.map (·.2))) (hO : OutAt w2 G vo S1.outs) (hne : ∀ k, v0.ownBlock = some k → v1.ownBlock ≠ some k) (x : Int) (s : ByteArray) :
    RAt ((w2.setCell ⟨r, 2, none⟩ (.int .i64 x)).setCell ⟨r, 3, none⟩ (.string s)) G r { S1 with ver := x, root := s } ∧ Went G G w2 ((w2.setCell ⟨r, 2, none⟩ (.int .i64 x)).setCell ⟨r, 3, none⟩ (.string s)) := by
  have g1 := grown_one w2 r 2 (.int .i64 x)
  have g2 := grown_one (w2.setCell ⟨r, 2, none⟩ (.int .i64 x)) r 3 (.string s)
  have hg := g1.trans g2
  have hk : ∀ k, k < w2.heap.size → k ≠ r → _ = w2.heap[k]? := fun k hl hn => hg.block k hl (fun e => hn (Option.some.inj e))
  exact ⟨⟨v0, v1, vo, heap_setCell_same _ r 3 _ 48 _ (heap_setCell_same w2 r 2 _ 48 (.int .i64 x) hb), hG, h0.keep hb (by decide) hk, h1.keep hb (by decide) hk, hO.keep hb (by decide) hk, hne⟩, ⟨Chg.grown hg hG, fun k h => .inl h⟩⟩
set_option maxHeartbeats 4000000 in
set_option maxRecDepth 100000 in
theorem rswap_calls {W : World} {G : Nat → Prop} {r : Nat} {S : RSt} (h : RAt W G r S) (v : Int) (nm : ByteArray) :
    Calls Tryd.prog 36 #[.pointer (some ⟨r, 0, none⟩), .int .i64 v, .string nm] W fun e W' => e = .returned (.int .i64 (S.swap v nm).2) ∧ RAt W' G r (S.swap v nm).1 ∧ Went G G W W' := by
  have Xh := Aside0.mk h
  have hK := fun w1 => rtake_went (w1 := w1) h
  clear h
  have hN := refName_calls nm W
  cases hB : nameB nm
  · have hp : S.swap v nm = (S, 6) := by unfold RSt.swap; rw [hB]; rfl
    rw [hB] at hN
    rw [hp]
    have XN := Aside0.mk hN
    clear hN hB hp hK
    go_enter Tryd.func36, Tryd.ntmps36
    go_wp2_with (first | (go_at_call 16; refine XN.out.mono ?_; rintro e w' ⟨rfl, hw⟩) | fail)
    go_ret
    exact ⟨rfl, Xh.out.below hw, Went.of hw⟩
  rw [hB] at hN
  have XB := Aside0.mk hB
  have XN := Aside0.mk hN
  clear hN hB
  obtain ⟨o, ho⟩ : ∃ o, o = S.o := ⟨_, rfl⟩
  obtain ⟨S1, hS1⟩ : ∃ S1, S1 = S.next := ⟨_, rfl⟩
  have hver : S.ver = S1.ver := by rw [hS1]; rfl
  have hp : S.swap v nm = (if o ≠ 1 ∧ v = S1.ver then { S1 with ver := wrap64 (v + 1), root := nm } else S1, if o = 0 ∧ v ≠ S1.ver then 17 else toldI o) := by unfold RSt.swap; rw [XB.out, if_pos rfl, ← ho, hver, hS1]
  rw [hp]
  rw [← ho, ← hS1] at hK
  have XK := Aside0.mk hK
  clear hp hK ho hS1 hver
  have hwr : IntKind.i64.wrap (v + 1) = wrap64 (v + 1) := by unfold wrap64; exact IntKind.wrap_i64 _
  by_cases hv : v = S1.ver
  · have hbv : (v == S1.ver) = true := by simp [hv]
    have XV := Aside0.mk hv
    rw [if_neg (fun h : o = 0 ∧ v ≠ S1.ver => h.2 hv)]
    have hwr2 : IntKind.i64.wrap (S1.ver + 1) = wrap64 (v + 1) := by rw [← hv]; exact hwr
    by_cases h1 : o = 1
    · rw [if_neg (fun h : o ≠ 1 ∧ v = S1.ver => h.1 h1)]
      subst h1
      clear hv
      go_enter Tryd.func36, Tryd.ntmps36
      go_wp2_with (first | (go_at_call 16; refine XN.out.mono ?_; rintro e w' ⟨rfl, hw⟩; have Xw := Aside0.mk hw; clear hw) | (go_at_call 47; refine (XK.out _ Xw.out).mono ?_; rintro e w2 ⟨rfl, hb2, hW2⟩; have XW := Aside0.mk hW2; have Xb2 := Aside0.mk hb2; obtain ⟨v0, v1, vo, hb, hG, h0, h1, hO, hne⟩ := hb2; have c2 : w2.cell? ⟨r, 2, none⟩ = some (.int .i64 S1.ver) := blk_cell hb 2; have c3 : w2.cell? ⟨r, 3, none⟩ = some (.string S1.root) := blk_cell hb 3; have f2 : w2.frozen? ⟨r, 2, none⟩ = false := blk_frozen hb 2; have f3 : w2.frozen? ⟨r, 3, none⟩ = false := blk_frozen hb 3; have Xhb := Aside0.mk (And.intro hb (And.intro hG (And.intro h0 (And.intro h1 (And.intro hO hne))))); clear hb hG h0 h1 hO hne hW2) | fail)
      go_ret
      exact ⟨rfl, Xb2.out, XW.out⟩
    · rw [if_pos ⟨h1, hv⟩]
      have hb1 : (o != 1) = true := bne_iff_ne.2 h1
      clear h1 hv
      by_cases h0 : o = 0
      · subst h0
        go_enter Tryd.func36, Tryd.ntmps36
        go_wp2_with (first | (go_at_call 16; refine XN.out.mono ?_; rintro e w' ⟨rfl, hw⟩; have Xw := Aside0.mk hw; clear hw) | (go_at_call 47; refine (XK.out _ Xw.out).mono ?_; rintro e w2 ⟨rfl, hb2, hW2⟩; have XW := Aside0.mk hW2; have Xb2 := Aside0.mk hb2; obtain ⟨v0, v1, vo, hb, hG, h0, h1, hO, hne⟩ := hb2; have c2 : w2.cell? ⟨r, 2, none⟩ = some (.int .i64 S1.ver) := blk_cell hb 2; have c3 : w2.cell? ⟨r, 3, none⟩ = some (.string S1.root) := blk_cell hb 3; have f2 : w2.frozen? ⟨r, 2, none⟩ = false := blk_frozen hb 2; have f3 : w2.frozen? ⟨r, 3, none⟩ = false := blk_frozen hb 3; have Xhb := Aside0.mk (And.intro hb (And.intro hG (And.intro h0 (And.intro h1 (And.intro hO hne))))); clear hb hG h0 h1 hO hne hW2) | fail)
        go_ret
        obtain ⟨h5, h6⟩ := rswap_end Xhb.out.1 Xhb.out.2.1 Xhb.out.2.2.1 Xhb.out.2.2.2.1 Xhb.out.2.2.2.2.1 Xhb.out.2.2.2.2.2 (wrap64 (v + 1)) nm
        exact ⟨rfl, h5, XW.out.trans h6⟩
      · have hb0 : (o != 0) = true := bne_iff_ne.2 h0
        have ht : toldI o = 15 := if_pos h0
        rw [ht]
        clear h0 ht
        go_enter Tryd.func36, Tryd.ntmps36
        go_wp2_with (first | (go_at_call 16; refine XN.out.mono ?_; rintro e w' ⟨rfl, hw⟩; have Xw := Aside0.mk hw; clear hw) | (go_at_call 47; refine (XK.out _ Xw.out).mono ?_; rintro e w2 ⟨rfl, hb2, hW2⟩; have XW := Aside0.mk hW2; have Xb2 := Aside0.mk hb2; obtain ⟨v0, v1, vo, hb, hG, h0, h1, hO, hne⟩ := hb2; have c2 : w2.cell? ⟨r, 2, none⟩ = some (.int .i64 S1.ver) := blk_cell hb 2; have c3 : w2.cell? ⟨r, 3, none⟩ = some (.string S1.root) := blk_cell hb 3; have f2 : w2.frozen? ⟨r, 2, none⟩ = false := blk_frozen hb 2; have f3 : w2.frozen? ⟨r, 3, none⟩ = false := blk_frozen hb 3; have Xhb := Aside0.mk (And.intro hb (And.intro hG (And.intro h0 (And.intro h1 (And.intro hO hne))))); clear hb hG h0 h1 hO hne hW2) | fail)
        go_ret
        obtain ⟨h5, h6⟩ := rswap_end Xhb.out.1 Xhb.out.2.1 Xhb.out.2.2.1 Xhb.out.2.2.2.1 Xhb.out.2.2.2.2.1 Xhb.out.2.2.2.2.2 (wrap64 (v + 1)) nm
        exact ⟨rfl, h5, XW.out.trans h6⟩
  · have hbv : (v == S1.ver) = false := by simp [hv]
    rw [if_neg (fun h : o ≠ 1 ∧ v = S1.ver => hv h.2)]
    by_cases h0 : o = 0
    · rw [if_pos ⟨h0, hv⟩]
      subst h0
      clear hv
      go_enter Tryd.func36, Tryd.ntmps36
      go_wp2_with (first | (go_at_call 16; refine XN.out.mono ?_; rintro e w' ⟨rfl, hw⟩; have Xw := Aside0.mk hw; clear hw) | (go_at_call 47; refine (XK.out _ Xw.out).mono ?_; rintro e w2 ⟨rfl, hb2, hW2⟩; have XW := Aside0.mk hW2; have Xb2 := Aside0.mk hb2; obtain ⟨v0, v1, vo, hb, hG, h0, h1, hO, hne⟩ := hb2; have c2 : w2.cell? ⟨r, 2, none⟩ = some (.int .i64 S1.ver) := blk_cell hb 2; have c3 : w2.cell? ⟨r, 3, none⟩ = some (.string S1.root) := blk_cell hb 3; have f2 : w2.frozen? ⟨r, 2, none⟩ = false := blk_frozen hb 2; have f3 : w2.frozen? ⟨r, 3, none⟩ = false := blk_frozen hb 3; have Xhb := Aside0.mk (And.intro hb (And.intro hG (And.intro h0 (And.intro h1 (And.intro hO hne))))); clear hb hG h0 h1 hO hne hW2) | fail)
      go_ret
      exact ⟨rfl, Xb2.out, XW.out⟩
    · rw [if_neg (fun h : o = 0 ∧ v ≠ S1.ver => h0 h.1)]
      have hb0 : (o != 0) = true := bne_iff_ne.2 h0
      have ht : toldI o = 15 := if_pos h0
      rw [ht]
      clear h0 ht hv
      by_cases h1 : o = 1
      · subst h1
        go_enter Tryd.func36, Tryd.ntmps36
        go_wp2_with (first | (go_at_call 16; refine XN.out.mono ?_; rintro e w' ⟨rfl, hw⟩; have Xw := Aside0.mk hw; clear hw) | (go_at_call 47; refine (XK.out _ Xw.out).mono ?_; rintro e w2 ⟨rfl, hb2, hW2⟩; have XW := Aside0.mk hW2; have Xb2 := Aside0.mk hb2; obtain ⟨v0, v1, vo, hb, hG, h0, h1, hO, hne⟩ := hb2; have c2 : w2.cell? ⟨r, 2, none⟩ = some (.int .i64 S1.ver) := blk_cell hb 2; have c3 : w2.cell? ⟨r, 3, none⟩ = some (.string S1.root) := blk_cell hb 3; have f2 : w2.frozen? ⟨r, 2, none⟩ = false := blk_frozen hb 2; have f3 : w2.frozen? ⟨r, 3, none⟩ = false := blk_frozen hb 3; have Xhb := Aside0.mk (And.intro hb (And.intro hG (And.intro h0 (And.intro h1 (And.intro hO hne))))); clear hb hG h0 h1 hO hne hW2) | fail)
        go_ret
        exact ⟨rfl, Xb2.out, XW.out⟩
      · have hb1 : (o != 1) = true := bne_iff_ne.2 h1
        clear h1
        go_enter Tryd.func36, Tryd.ntmps36
        go_wp2_with (first | (go_at_call 16; refine XN.out.mono ?_; rintro e w' ⟨rfl, hw⟩; have Xw := Aside0.mk hw; clear hw) | (go_at_call 47; refine (XK.out _ Xw.out).mono ?_; rintro e w2 ⟨rfl, hb2, hW2⟩; have XW := Aside0.mk hW2; have Xb2 := Aside0.mk hb2; obtain ⟨v0, v1, vo, hb, hG, h0, h1, hO, hne⟩ := hb2; have c2 : w2.cell? ⟨r, 2, none⟩ = some (.int .i64 S1.ver) := blk_cell hb 2; have c3 : w2.cell? ⟨r, 3, none⟩ = some (.string S1.root) := blk_cell hb 3; have f2 : w2.frozen? ⟨r, 2, none⟩ = false := blk_frozen hb 2; have f3 : w2.frozen? ⟨r, 3, none⟩ = false := blk_frozen hb 3; have Xhb := Aside0.mk (And.intro hb (And.intro hG (And.intro h0 (And.intro h1 (And.intro hO hne))))); clear hb hG h0 h1 hO hne hW2) | fail)
        go_ret
        exact ⟨rfl, Xb2.out, XW.out⟩
end
end Go.Proofs.YtcallfgihohldaaDoor.PA
