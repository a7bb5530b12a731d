/- Texts of this claim: contracts of the functions that the statement reaches, and plain laws of what they compute. -/
import Derived.Test.YtcallfgihohldaaDoorQOthB0
import Derived.Test.YtcallfgihohldaaDoorProg
import Derived.Below
import Derived.Deep.Draws
import Derived.Deep.AppendLies
import Derived.Maps.AppendAt
import Derived.OwnWalk
import Derived.Laws.BytesArg
import Derived.Laws.MakeOwn
import Derived.Laws.OwnMore
import Derived.Deep.OwnRows
import Derived.Tactics
import Derived.Lib.ConvBytes
import Derived.Laws.Slices
import Derived.WalkKit
import Derived.KernelRfl
import Derived.RowKit3
import Derived.Deep.LoopGhost
import Derived.Deep.QuietTactic
import Derived.BigQuiet
import Derived.WideLaws
import Derived.Deep.DeepCutAuto
import Derived.Deep.CutBlock
import Derived.Deep.RegionHeld3
import Derived.Laws.Rows
import Derived.Lib.AppendStr
import Derived.ArgAppend
import Derived.Laws.IdiomCopy
import Derived.OrdersHeld
import Derived.Laws.BitsLemmas
import Derived.RowKit
import Derived.Lib.SliceRun
import Derived.Lib.SlBytesConst
import Derived.Maps.OwnSet
import Derived.OpenShut
import Derived.ShutString
import Derived.ChangeOld
import Derived.SizedLaws
import Derived.Deep.Slices
import Derived.Deep.Strs
import Derived.Shelf.Strings.SlTrimAscii
import Derived.Shelf.SlIter.Nil
import Derived.Shelf.SortM.Plain
import Derived.Shelf.SortM.SortNone
import Derived.Test.YtcallfgihohldaaDoorCards
import Derived.Test.YtcallfgihohldaaDoorTie
import Derived.Deep.DeepHandedRow
import Derived.Lay
import Derived.Lib.LaidTab
import Derived.ProofKit
import Derived.Lib.SmallJoins
set_option linter.unusedVariables false
set_option linter.unusedSimpArgs false
namespace Go.Proofs.YtcallfgihohldaaDoor.PA
section

open Go.RowKit Go.Proofs.YtcallfgihohldaaDoorW.PrintWords Go.Proofs.YtcallfgihohldaaDoorW.PrintLast Go.Proofs.YtcallfgihohldaaDoorW.PrintMore
attribute [local go_sem] max2_int min2_int max_two min_two max_three min_three max_four min_four
set_option linter.unusedVariables false
set_option linter.unusedSimpArgs false
section
open Go.ChangeShapes Go.WideShapes Go.Deep
variable {H : Type} {enc : TypeId × Value → H} {P : Program} {w : World} {base : Nat} {spare : Nat → Bool} {held : Bool}
theorem ra_addr (a : Addr) (m i : Nat) : (a.add m).add i = a.add (m + i) := Go.Deep.add_add a m i
theorem open_rows {α : Type} [Inhabited α] (k : Kd α) (Wf : α → Prop) {t e : TypeId} {fuel : Nat} {A : Option Addr} {len cap : Nat} {x : DataW H × List MemPlace} (ht : P.underlying t = some (.slice e)) (hce : P.cellsOf e = k.sz)
    (He : ∀ n cs y, DataW.trod enc P w base spare held n e cs = some y → ∃ v, k.K w v cs ∧ Wf v)
    (h : DataW.trod enc P w base spare held fuel t [.slice A len cap] = some x) : ∃ l : List α, l.length = len ∧ k.C w A len l ∧ len ≤ cap ∧ ∀ v ∈ l, Wf v := by
  rcases open_slice ht h with ⟨hcs, _⟩ | ⟨a, l, c, m, n, D, Pl, hcs, _, hl, hm, hmm, _, hx⟩
  · simp at hcs
    obtain ⟨rfl, rfl, rfl⟩ := hcs
    exact ⟨[], rfl, ⟨rfl, by omega, fun h0 => absurd h0 (by omega)⟩, Nat.le_refl _, by simp⟩
  · simp at hcs
    obtain ⟨rfl, rfl, rfl⟩ := hcs
    have hlm : len ≤ m := by rw [hmm]; split <;> omega
    obtain ⟨f, hf⟩ := choose_lt (α := α) (n := len) (p := fun i v => ∃ cs, w.cells? base (a.add (i * k.sz)) k.sz = some cs ∧ k.K w v cs ∧ Wf v) (fun i hi => by
      obtain ⟨cs', h1, h2⟩ := hx i (by omega)
      rw [hce] at h1
      obtain ⟨v, h3, h4⟩ := He _ _ _ h2
      exact ⟨v, cs', h1, h3, h4⟩)
    refine ⟨(List.range len).map f, by simp, ⟨by simp, by simp only [maxLen] at hm; omega, fun _ => ⟨a, rfl, fun j p hj => ?_⟩⟩, hl, fun v hv => ?_⟩
    · have hjl : j < len := by
        rcases Nat.lt_or_ge j len with h' | h'
        · exact h'
        · rw [List.getElem?_eq_none (by simpa using h')] at hj; cases hj
      simp [hjl] at hj
      subst hj
      obtain ⟨cs, h1, h2, _⟩ := hf j hjl
      obtain ⟨_, h3, h4⟩ := World.cells?_some h1
      refine ⟨cs, h3, h2, fun i u hu => ?_⟩
      have hi : i < k.sz := by rw [← h3]; exact (List.getElem?_eq_some_iff.1 hu).1
      rw [← ra_addr, h4 i hi, hu]
    · simp only [List.mem_map, List.mem_range] at hv
      obtain ⟨j, hj, rfl⟩ := hv
      exact (hf j hj).choose_spec.2.2
theorem open_rows_sized {ts : List TypeId} {ds : List (DataW H)} {ps : List MemPlace} {d : DataW H} {j : Nat} {t e : TypeId} {A : Option Addr} {len cap : Nat}
    (hsz : (DataW.weightsEach P ts ds).all (· ≤ reachBytes) = true) (htj : ts[j]? = some t) (hdj : ds[j]? = some d) (ht : P.underlying t = some (.slice e)) {B : Nat} (hB : P.bytesOf e = B)
    (h : DataW.Trod enc P w base spare held t (.slice A len cap) d ps) : len * B ≤ 140737488351232 := by
  obtain ⟨fuel, hf⟩ := h
  rcases open_slice ht hf with ⟨hcs, _⟩ | ⟨a, l, c, m, n, D, Pl, hcs, _, hl, hm, hmm, hx, _⟩
  · simp [Value.cells] at hcs
    obtain ⟨rfl, rfl, rfl⟩ := hcs
    simp
  · simp [Value.cells] at hcs
    obtain ⟨rfl, rfl, rfl⟩ := hcs
    obtain ⟨hx, _⟩ := Prod.mk.inj hx
    subst hx
    have z := sized_slice hsz htj hdj ht
    rw [hB] at z
    have hle : len ≤ m := by rw [hmm]; split <;> omega
    simp only [List.length_map, List.length_range] at z
    have h3 : len ≤ len + (m - len) := by omega
    exact Nat.le_trans (Nat.mul_le_mul_right _ h3) z
end
end
end Go.Proofs.YtcallfgihohldaaDoor.PA
namespace Go.Proofs.YtcallfgihohldaaDoor.PA
section

open Go.RowKit Go.Proofs.YtcallfgihohldaaDoorW.PrintWords Go.Proofs.YtcallfgihohldaaDoorW.PrintLast Go.Proofs.YtcallfgihohldaaDoorW.PrintMore
attribute [local go_sem] max2_int min2_int max_two min_two max_three min_three max_four min_four
set_option linter.unusedVariables false
set_option linter.unusedSimpArgs false
structure BSt where
  m : ByteArray → Option (List Int)
  ver : Int
  root : ByteArray
  outs : List Int
  calls : Int
def BSt.o (S : BSt) : Int := match S.outs with
  | [] => 0
  | x :: _ => (wrap64 (x.tmod 3 + 3)).tmod 3
def BSt.next (S : BSt) : BSt := { S with outs := S.outs.tail, calls := wrap64 (S.calls + 1) }
def toldI (o : Int) : Int := if o ≠ 0 then 15 else 0
def okC (c : UInt8) : Bool := (97 ≤ c.toNat && c.toNat ≤ 122) || (48 ≤ c.toNat && c.toNat ≤ 57) || c.toNat == 45
def nameB (s : ByteArray) : Bool := !(s.toList == []) && decide (s.size ≤ 40) && s.toList.all okC
def BSt.set (S : BSt) (n : ByteArray) (b : Option (List Int)) : BSt := { S with m := fun k => if k = n then b else S.m k }
def BSt.put (S : BSt) (n : ByteArray) (b : List Int) : BSt × Int :=
  if nameB n then (if 60000 < b.length then (S, 14) else (if S.o = 1 then S.next else S.next.set n (some b), toldI S.o)) else (S, 6)
def BSt.get (S : BSt) (n : ByteArray) : BSt × List Int × Int :=
  if nameB n then (if S.o ≠ 0 then (S.next, [], 15) else match S.m n with
    | none => (S.next, [], 7)
    | some b => (S.next, b, 0)) else (S, [], 6)
def BSt.del (S : BSt) (n : ByteArray) : BSt × Int := if nameB n then (if S.o = 1 then S.next else S.next.set n none, toldI S.o) else (S, 6)
def BSt.script (S : BSt) (l : List Int) : BSt := { S with outs := S.outs ++ l }
def BSt.new : BSt := { m := fun _ => none, ver := 0, root := ⟨#[]⟩, outs := [], calls := 0 }
def tokR (v : Value) : Option (DataW Value × List MemPlace) := some (.held v, [])
def litS (s : ByteArray) : Lit := .string s.data.toList
/-- A blob's bytes: a row of the store's own, from its block's head on. -/
def BytesAt (W : World) (F : Nat → Prop) (v : Value) (b : List Int) : Prop :=
  (∃ A, v = .slice A 0 0 ∧ b = []) ∨ ∃ q c cs, v = .slice (some ⟨q, 0, none⟩) b.length c ∧ (b.length ≤ c ∧ b.length ≤ 60000) ∧ F q ∧ W.heap[q]? = some (.cells cs 5 (0, 0)) ∧ ∀ i (h : i < b.length), cs[i]? = some (.int .u8 b[i])
/-- Block bm is a map of at most n entries: the names with their bytes. -/
def MapAt (W : World) (F : Nat → Prop) (bm n : Nat) (m : ByteArray → Option (List Int)) : Prop :=
  ∃ D, W.ownsMap (H := Value) Tryd.prog 9 tokR bm n D ∧ F bm ∧
    ∀ k : ByteArray, k.size ≤ maxLen → (Maps.has D (litS k) = (m k).isSome) ∧ ∀ b, m k = some b → ∃ v, (∀ z, D.atKey (litS k) z = .held v) ∧ BytesAt W F v b
/-- The outcomes to come: a row of the store's own that may begin anywhere in its block, room behind it. -/
def OutAt (W : World) (F : Nat → Prop) (v : Value) (l : List Int) : Prop :=
  (∃ A, v = .slice A 0 0 ∧ l = []) ∨ ∃ g off c cs, v = .slice (some ⟨g, off, none⟩) l.length c ∧ l.length ≤ c ∧ 0 < c ∧ F g ∧ W.heap[g]? = some (.cells cs 3 (0, 0)) ∧ off + c ≤ cs.size ∧ cs.size ≤ maxLen ∧ ∀ i (h : i < l.length), cs[off + i]? = some (.int .i64 l[i])
def BAt (W : World) (F : Nat → Prop) (g n : Nat) (S : BSt) : Prop :=
  ∃ bm vo, W.heap[g]? = some (.cells #[.map (some bm), .int .i64 S.ver, .string S.root, vo, .int .i64 S.calls] 55 (0, 0)) ∧ F g ∧ MapAt W F bm n S.m ∧ OutAt W F vo S.outs
theorem OutAt.form {W : World} {F : Nat → Prop} {v : Value} {l : List Int} (h : OutAt W F v l) : ∃ A c, v = .slice A l.length c ∧ l.length ≤ c := by
  rcases h with ⟨A, rfl, rfl⟩ | ⟨g, off, c, cs, rfl, hc, _⟩
  · exact ⟨A, 0, rfl, Nat.le_refl _⟩
  · exact ⟨_, c, rfl, hc⟩
theorem OutAt.kept {W W' : World} {F : Nat → Prop} {v : Value} {l : List Int} (h : OutAt W F v l) (hm : ∀ (k : Nat) (cs : Array Value), W.heap[k]? = some (Obj.cells cs 3 (0, 0)) → W'.heap[k]? = W.heap[k]?) : OutAt W' F v l := by
  rcases h with h | ⟨g, off, c, cs, h1, h2, h3, h4, h5, h6⟩
  · exact .inl h
  · exact .inr ⟨g, off, c, cs, h1, h2, h3, h4, (hm g cs h5).trans h5, h6⟩
theorem OutAt.head {W : World} {F : Nat → Prop} {v : Value} {x : Int} {l : List Int} (h : OutAt W F v (x :: l)) : ∃ g off c, v = .slice (some ⟨g, off, none⟩) (l.length + 1) c ∧ l.length + 1 ≤ c ∧ (∃ cs, W.heap[g]? = some (.cells cs 3 (0, 0)) ∧ cs[off]? = some (.int .i64 x)) ∧ OutAt W F (.slice (if c = 1 then some ⟨g, off, none⟩ else some ⟨g, off + 1, none⟩) l.length (c - 1)) l := by
  rcases h with ⟨A, _, e⟩ | ⟨g, off, c, cs, rfl, h2, h3, h4, h5, h6, h7, h8⟩
  · cases e
  · have h2' : l.length + 1 ≤ c := h2
    refine ⟨g, off, c, rfl, h2', ⟨cs, h5, by simpa using h8 0 (Nat.succ_pos _)⟩, ?_⟩
    by_cases hc : c = 1
    · subst hc
      have : l = [] := List.eq_nil_of_length_eq_zero (by omega)
      subst this
      exact .inl ⟨_, rfl, rfl⟩
    · rw [if_neg hc]
      refine .inr ⟨g, off + 1, c - 1, cs, rfl, by omega, by omega, h4, h5, by omega, h7, fun i hi => ?_⟩
      have := h8 (i + 1) (Nat.succ_lt_succ hi)
      rw [show off + 1 + i = off + (i + 1) by omega]
      simpa using this
theorem BytesAt.keep {W W' : World} {F : Nat → Prop} {v : Value} {b : List Int} (h : BytesAt W F v b) {g t : Nat} {cs : Array Value} {fr : Nat × Nat} (hg : W.heap[g]? = some (.cells cs t fr)) (ht : t ≠ 5) (hs : ∀ k, k < W.heap.size → k ≠ g → W'.heap[k]? = W.heap[k]?) : BytesAt W' F v b := by
  rcases h with h | ⟨q, c, ds, h1, h2, h3, h4, h5⟩
  · exact .inl h
  · have hne : q ≠ g := fun e => by
      subst e
      rw [hg] at h4
      injection h4 with h4; injection h4 with _ h6
      exact ht h6
    exact .inr ⟨q, c, ds, h1, h2, h3, (hs q (blk_lt h4) hne).trans h4, h5⟩
theorem OutAt.keep {W W' : World} {F : Nat → Prop} {v : Value} {b : List Int} (h : OutAt W F v b) {g t : Nat} {cs : Array Value} {fr : Nat × Nat} (hg : W.heap[g]? = some (.cells cs t fr)) (ht : t ≠ 3) (hs : ∀ k, k < W.heap.size → k ≠ g → W'.heap[k]? = W.heap[k]?) : OutAt W' F v b := by
  rcases h with h | ⟨q, off, c, ds, h1, h2, h3, h3', h4, h5⟩
  · exact .inl h
  · have hne : q ≠ g := fun e => by
      subst e
      rw [hg] at h4
      injection h4 with h4; injection h4 with _ h6
      exact ht h6
    exact .inr ⟨q, off, c, ds, h1, h2, h3, h3', (hs q (blk_lt h4) hne).trans h4, h5⟩
theorem MapAt.keep {W W' : World} {F : Nat → Prop} {bm n : Nat} {m : ByteArray → Option (List Int)} (h : MapAt W F bm n m) {g t : Nat} {cs : Array Value} {fr : Nat × Nat} (hg : W.heap[g]? = some (.cells cs t fr)) (ht : t ≠ 5) (hs : ∀ k, k < W.heap.size → k ≠ g → W'.heap[k]? = W.heap[k]?) : MapAt W' F bm n m := by
  obtain ⟨D, ⟨es, clock, hb, hr⟩, hF, hk⟩ := h
  have hne : bm ≠ g := fun e => by
    subst e
    rw [hg] at hb
    cases hb
  refine ⟨D, ⟨es, clock, (hs bm (blk_lt hb) hne).trans hb, hr⟩, hF, fun k hkl => ⟨(hk k hkl).1, fun b hb' => ?_⟩⟩
  obtain ⟨v, h1, h2⟩ := (hk k hkl).2 b hb'
  exact ⟨v, h1, h2.keep hg ht hs⟩
theorem grown_one (W : World) (g i : Nat) (v : Value) : W.grownBy (W.setCell ⟨g, i, none⟩ v) (some g) := ⟨rfl, rfl, rfl, by simp [World.setCell], fun k _ hne => Below.heap_setCell W ⟨g, i, none⟩ v k (fun e => hne (congrArg some e))⟩
set_option maxHeartbeats 1000000 in
theorem take_calls {W : World} {F : Nat → Prop} {g n : Nat} {S : BSt} (h : BAt W F g n S) :
    Calls Tryd.prog 24 #[.pointer (some ⟨g, 0, none⟩)] W fun e W' => e = .returned (.int .i64 S.o) ∧ BAt W' F g n S.next ∧ W.grownBy W' (some g) := by
  obtain ⟨bm, vo, hb, hF, hM, hO⟩ := h
  have c3 : W.cell? ⟨g, 3, none⟩ = some vo := blk_cell hb 3
  have c4 : W.cell? ⟨g, 4, none⟩ = some (.int .i64 S.calls) := blk_cell hb 4
  have f3 : W.frozen? ⟨g, 3, none⟩ = false := blk_frozen hb 3
  have f4 : W.frozen? ⟨g, 4, none⟩ = false := blk_frozen hb 4
  have hw : IntKind.i64.wrap (S.calls + 1) = wrap64 (S.calls + 1) := by unfold wrap64; exact IntKind.wrap_i64 _
  have HB := Aside0.mk hb
  have HF := Aside0.mk hF
  have HM := Aside0.mk hM
  have HO := Aside0.mk hO
  clear hb hF hM hO
  rcases hs : S.outs with _ | ⟨x, l⟩
  · have HS := Aside0.mk hs
    rw [hs] at HO
    obtain ⟨A, c, rfl, _⟩ := HO.out.form
    replace c3 : W.cell? ⟨g, 3, none⟩ = some (.slice A 0 c) := c3
    clear hs
    go_enter Tryd.func24, Tryd.ntmps24
    go_wp2_with fail
    go_ret
    have hg := grown_one W g 4 (.int .i64 (wrap64 (S.calls + 1)))
    have hk : ∀ k, k < W.heap.size → k ≠ g → (W.setCell ⟨g, 4, none⟩ (.int .i64 (wrap64 (S.calls + 1)))).heap[k]? = W.heap[k]? := fun k hl hn => hg.block k hl (fun e => hn (Option.some.inj e))
    have ho : S.o = 0 := by unfold BSt.o; rw [HS.out]
    refine ⟨by rw [ho]; rfl, ⟨bm, _, heap_setCell_same W g 4 _ 55 (.int .i64 (wrap64 (S.calls + 1))) HB.out, HF.out, HM.out.keep HB.out (by decide) hk, ?_⟩, hg⟩
    unfold BSt.next
    rw [HS.out]
    exact HO.out.keep HB.out (by decide) hk
  · rw [hs] at HO
    have HS := Aside0.mk hs
    clear hs
    obtain ⟨q, off, c, rfl, hlc, ⟨ds, hq, hx⟩, hR⟩ := HO.out.head
    have hqg : q ≠ g := fun e => by
      subst e
      have := HB.out
      rw [hq] at this
      injection this with this; injection this with _ h6
      cases h6
    have x0 : W.cell? ⟨q, off, none⟩ = some (.int .i64 x) := (blk_cell hq off).trans hx
    have HRR := Aside0.mk hR
    have HQ := Aside0.mk hqg
    have hw1 : IntKind.i64.wrap (x.tmod 3 + 3) = wrap64 (x.tmod 3 + 3) := by unfold wrap64; exact IntKind.wrap_i64 _
    clear hR hq hx
    have ho : S.o = (wrap64 (x.tmod 3 + 3)).tmod 3 := by unfold BSt.o; rw [HS.out]
    have hn : S.next = { S with outs := l, calls := wrap64 (S.calls + 1) } := by unfold BSt.next; rw [HS.out]; rfl
    rw [ho, hn]
    clear ho hn
    by_cases hc : c = 1
    · subst hc
      rw [if_pos rfl] at HRR
      obtain rfl : l = [] := List.eq_nil_of_length_eq_zero (by omega)
      replace HRR : Aside0 (OutAt W F (.slice (some ⟨q, off, none⟩) 0 0) []) := HRR
      replace c3 : W.cell? ⟨g, 3, none⟩ = some (.slice (some ⟨q, off, none⟩) 1 1) := c3
      go_enter Tryd.func24, Tryd.ntmps24
      go_wp2_with fail
      go_ret
      have g1 := grown_one W g 4 (.int .i64 (wrap64 (S.calls + 1)))
      have g2 := grown_one (W.setCell ⟨g, 4, none⟩ (.int .i64 (wrap64 (S.calls + 1)))) g 3 (.slice (some ⟨q, off, none⟩) 0 0)
      have hg := g1.trans g2
      have hk : ∀ k, k < W.heap.size → k ≠ g → _ = W.heap[k]? := fun k hl hn => hg.block k hl (fun e => hn (Option.some.inj e))
      exact ⟨rfl, ⟨bm, _, heap_setCell_same _ g 3 _ 55 _ (heap_setCell_same W g 4 _ 55 (.int .i64 (wrap64 (S.calls + 1))) HB.out), HF.out, HM.out.keep HB.out (by decide) hk, HRR.out.keep HB.out (by decide) hk⟩, hg⟩
    · rw [if_neg hc] at HRR
      go_enter Tryd.func24, Tryd.ntmps24
      go_wp2_with fail
      go_ret
      have g1 := grown_one W g 4 (.int .i64 (wrap64 (S.calls + 1)))
      have g2 := grown_one (W.setCell ⟨g, 4, none⟩ (.int .i64 (wrap64 (S.calls + 1)))) g 3 (.slice (some ⟨q, off + 1, none⟩) l.length (c - 1))
      have hg := g1.trans g2
      have hk : ∀ k, k < W.heap.size → k ≠ g → _ = W.heap[k]? := fun k hl hn => hg.block k hl (fun e => hn (Option.some.inj e))
      exact ⟨rfl, ⟨bm, _, heap_setCell_same _ g 3 _ 55 _ (heap_setCell_same W g 4 _ 55 (.int .i64 (wrap64 (S.calls + 1))) HB.out), HF.out, HM.out.keep HB.out (by decide) hk, HRR.out.keep HB.out (by decide) hk⟩, hg⟩
set_option maxHeartbeats 1000000 in
theorem calls_calls {W : World} {F : Nat → Prop} {g n : Nat} {S : BSt} (h : BAt W F g n S) :
    Calls Tryd.prog 17 #[.pointer (some ⟨g, 0, none⟩)] W fun e W' => e = .returned (.int .i64 S.calls) ∧ W' = W := by
  obtain ⟨bm, vo, hb, _⟩ := h
  have c4 : W.cell? ⟨g, 4, none⟩ = some (.int .i64 S.calls) := blk_cell hb 4
  clear hb
  go_enter Tryd.func17, Tryd.ntmps17
  go_wp2_with fail
  go_ret
  exact ⟨rfl, rfl⟩
set_option maxHeartbeats 1000000 in
theorem new_calls (w : World) : Calls Tryd.prog 10 #[] w fun e W' => ∃ g, e = .returned (.pointer (some ⟨g, 0, none⟩)) ∧ BAt W' (fun k => w.heap.size ≤ k) g 0 BSt.new ∧ Below w.heap.size w W' := by
  have hmm := @run_makeMap Tryd.prog
  have hb1 := below_alloc (Below.refl w.heap.size w) (.map #[] 0)
  have hb2 := below_alloc hb1 (.cells #[.map (some w.heap.size), .int .i64 0, .string ⟨#[]⟩, .slice none 0 0, .int .i64 0] 55)
  have hsz : (w.alloc (.map #[] 0)).heap.size = w.heap.size + 1 := by simp
  have h2 := heap_alloc_new (w.alloc (.map #[] 0)) (.cells #[.map (some w.heap.size), .int .i64 0, .string ⟨#[]⟩, .slice none 0 0, .int .i64 0] 55)
  have hm0 := (World.ownsMap_made w Tryd.prog 9 tokR).alloc (.cells #[.map (some w.heap.size), .int .i64 0, .string ⟨#[]⟩, .slice none 0 0, .int .i64 0] 55)
  have B2 := Aside0.mk hb2
  have H2 := Aside0.mk h2
  have M0 := Aside0.mk hm0
  clear hb1 hb2 h2 hm0 hsz
  go_enter Tryd.func10, Tryd.ntmps10
  go_wp2_with fail
  go_ret
  have hs1 : (w.alloc (.map #[] 0)).heap.size = w.heap.size + 1 := by simp
  have hh := H2.out
  rw [hs1] at hh
  exact ⟨w.heap.size + 1, rfl, ⟨w.heap.size, _, hh, Nat.le_succ _, ⟨_, M0.out, Nat.le_refl _, fun k hk => ⟨rfl, fun b hb => by cases hb⟩⟩, .inl ⟨none, rfl, rfl⟩⟩, B2.out⟩
end
end Go.Proofs.YtcallfgihohldaaDoor.PA
namespace Go.Proofs.YtcallfgihohldaaDoor.PA
section

open Go.RowKit Go.Proofs.YtcallfgihohldaaDoorW.PrintWords Go.Proofs.YtcallfgihohldaaDoorW.PrintLast Go.Proofs.YtcallfgihohldaaDoorW.PrintMore
attribute [local go_sem] max2_int min2_int max_two min_two max_three min_three max_four min_four
set_option linter.unusedVariables false
set_option linter.unusedSimpArgs false
theorem heap_setCells (g : Nat) (t : TypeId) : ∀ (vs : List Value) (o : Nat) (w : World) (cs : Array Value), w.heap[g]? = some (.cells cs t (0, 0)) → o + vs.length ≤ cs.size →
    ∃ cs' : Array Value, (w.setCells g o vs).heap[g]? = some (.cells cs' t (0, 0)) ∧ cs'.size = cs.size ∧ (∀ i, i < o → cs'[i]? = cs[i]?) ∧ (∀ i, o + vs.length ≤ i → cs'[i]? = cs[i]?) ∧ ∀ i u, vs[i]? = some u → cs'[o + i]? = some u
  | [], o, w, cs, h, _ => ⟨cs, h, rfl, fun _ _ => rfl, fun _ _ => rfl, fun i u hu => by simp at hu⟩
  | v :: r, o, w, cs, h, hl => by
    simp only [List.length_cons] at hl
    have h1 := heap_setCell_same w g o cs t v h
    obtain ⟨cs', a1, a2, a3, a4, a5⟩ := heap_setCells g t r (o + 1) _ _ h1 (by simp; omega)
    refine ⟨cs', by rw [World.setCells]; exact a1, by rw [a2]; simp, fun i hi => ?_, fun i hi => ?_, fun i u hu => ?_⟩
    · rw [a3 i (by omega), Array.getElem?_setIfInBounds_ne (by omega)]
    · simp only [List.length_cons] at hi
      rw [a4 i (by omega), Array.getElem?_setIfInBounds_ne (by omega)]
    · cases i with
      | zero =>
        cases hu
        rw [Nat.add_zero, a3 o (by omega), Array.getElem?_setIfInBounds_self_of_lt (by omega)]
      | succ i =>
        rw [show o + (i + 1) = o + 1 + i by omega]
        exact a5 i u hu
theorem size_setCells' (g : Nat) : ∀ (vs : List Value) (o : Nat) (w : World), (w.setCells g o vs).heap.size = w.heap.size
  | [], _, _ => rfl
  | v :: r, o, w => by
    rw [World.setCells, size_setCells' g r (o + 1)]
    simp [World.setCell]
theorem below_cell {w w1 : World} (hb : Below w.heap.size w w1) {p : Addr} {u : Value} (h : w.cell? p = some u) : w1.cell? p = some u := by
  have hl : p.block < w.heap.size := by
    rcases Nat.lt_or_ge p.block w.heap.size with h' | h'
    · exact h'
    · exfalso
      unfold World.cell? at h
      rw [Array.getElem?_eq_none h'] at h
      simp at h
  rw [hb.cell (p := p) hl]
  exact h
theorem wpList_append_ran {P : Program} {ops : Array Oper} {rest : List Oper} {o : Oper} {a : Act} {Q : Exit → Act → World → Prop} {w w' : World} (hg : o.guard = none) (s x : Operand) (t : TypeId)
    (hop : o.op = Op.call { callee := Callee.builtin Builtin.append, args := #[s, x], argTypes := #[t, t] }) (v1 v2 v : Value) (hs : a.eval s = v1) (hx : a.eval x = v2)
    (hrun : (Builtin.append_ #[t, t] o.type #[v1, v2]).run P w = .ok v w') (h : wpList P ops Q rest (a.put o.dst v) w') : wpList P ops Q (o :: rest) a w := by
  refine wpList_plain hg fun K hK => ?_
  unfold Oper.wp execOp
  simp only [hop, resolve, invoke, builtin, Sem.run_bind, Sem.run_pure, Result.andThen_ok, List.map_toArray, List.map_cons, List.map_nil, hs, hx, hrun]
  exact hK _ _ h
theorem heap_setCells_other {g k : Nat} (hk : k ≠ g) : ∀ (vs : List Value) (o : Nat) (w : World), (w.setCells g o vs).heap[k]? = w.heap[k]?
  | [], _, _ => rfl
  | v :: r, o, w => by
    rw [World.setCells, heap_setCells_other hk r (o + 1)]
    exact Below.heap_setCell w ⟨g, o, none⟩ v k hk
theorem strm_setCells (g : Nat) : ∀ (vs : List Value) (o : Nat) (w : World), (w.setCells g o vs).os = w.os ∧ (w.setCells g o vs).tape = w.tape ∧ (w.setCells g o vs).output = w.output
  | [], _, _ => ⟨rfl, rfl, rfl⟩
  | v :: r, o, w => by
    rw [World.setCells]
    exact strm_setCells g r (o + 1) _
/-- What has turned is the store's alone. -/
structure Chg (F : Nat → Prop) (w w' : World) : Prop where
  os : w'.os = w.os
  tape : w'.tape = w.tape
  output : w'.output = w.output
  size : w.heap.size ≤ w'.heap.size
  block : ∀ k, k < w.heap.size → ¬ F k → w'.heap[k]? = w.heap[k]?
theorem Chg.refl (F : Nat → Prop) (w : World) : Chg F w w := ⟨rfl, rfl, rfl, Nat.le_refl _, fun _ _ _ => rfl⟩
theorem Chg.trans {F : Nat → Prop} {a b c : World} (h : Chg F a b) (k : Chg F b c) : Chg F a c :=
  ⟨k.os.trans h.os, k.tape.trans h.tape, k.output.trans h.output, Nat.le_trans h.size k.size, fun i hi hF => (k.block i (Nat.lt_of_lt_of_le hi h.size) hF).trans (h.block i hi hF)⟩
theorem Chg.of {F : Nat → Prop} {a b : World} (h : Below a.heap.size a b) : Chg F a b := ⟨h.os, h.tape, h.output, h.size, fun k hk _ => h.block k hk⟩
theorem Chg.grown {F : Nat → Prop} {a b : World} {g : Nat} (h : a.grownBy b (some g)) (hF : F g) : Chg F a b := ⟨h.os, h.tape, h.output, h.size, fun k hk hn => h.block k hk (fun e => hn (Option.some.inj e ▸ hF))⟩
theorem Chg.below {F : Nat → Prop} {a b : World} {B : Nat} (h : Chg F a b) (hF : ∀ k, F k → B ≤ k) (hB : B ≤ a.heap.size) : Below B a b :=
  ⟨h.os, h.tape, h.output, h.size, fun k hk => h.block k (by omega) (fun hf => by have := hF k hf; omega)⟩
/-- The store's blocks are F before and F' behind; new ones are new. -/
structure Went (F F' : Nat → Prop) (W W' : World) : Prop where
  chg : Chg F W W'
  new : ∀ k, F' k → F k ∨ (W.heap.size ≤ k ∧ k < W'.heap.size)
theorem Went.refl (F : Nat → Prop) (w : World) : Went F F w w := ⟨Chg.refl F w, fun _ h => .inl h⟩
theorem Went.of {F : Nat → Prop} {a b : World} (h : Below a.heap.size a b) : Went F F a b := ⟨Chg.of h, fun _ h => .inl h⟩
theorem Went.trans {F G H : Nat → Prop} {a b c : World} (h : Went F G a b) (k : Went G H b c) : Went F H a c :=
  ⟨⟨k.chg.os.trans h.chg.os, k.chg.tape.trans h.chg.tape, k.chg.output.trans h.chg.output, Nat.le_trans h.chg.size k.chg.size, fun i hi hF =>
    (k.chg.block i (Nat.lt_of_lt_of_le hi h.chg.size) (fun hg => by
      rcases h.new i hg with h1 | h1
      · exact hF h1
      · omega)).trans (h.chg.block i hi hF)⟩, fun i hi => by
    rcases k.new i hi with h1 | h1
    · rcases h.new i h1 with h2 | h2
      · exact .inl h2
      · exact .inr ⟨h2.1, Nat.lt_of_lt_of_le h2.2 k.chg.size⟩
    · exact .inr ⟨Nat.le_trans h.chg.size h1.1, h1.2⟩⟩
theorem Went.ge {F F' : Nat → Prop} {W W' : World} (h : Went F F' W W') {B : Nat} (hF : ∀ k, F k → B ≤ k) (hB : B ≤ W.heap.size) : ∀ k, F' k → B ≤ k := fun k hk => by
  rcases h.new k hk with h1 | h1
  · exact hF k h1
  · omega
theorem Went.lt {F F' : Nat → Prop} {W W' : World} (h : Went F F' W W') (hF : ∀ k, F k → k < W.heap.size) : ∀ k, F' k → k < W'.heap.size := fun k hk => by
  rcases h.new k hk with h1 | h1
  · exact Nat.lt_of_lt_of_le (hF k h1) h.chg.size
  · exact h1.2
/-- A block of the caller's own stays the caller's. -/
theorem Went.out {F F' : Nat → Prop} {W W' : World} (h : Went F F' W W') {k : Nat} (hk : k < W.heap.size) (hF : ¬ F k) : ¬ F' k := fun hf => by
  rcases h.new k hf with h1 | h1
  · exact hF h1
  · omega
theorem BytesAt.move {W W' : World} {F F' : Nat → Prop} {v : Value} {b : List Int} (h : BytesAt W F v b) (hm : ∀ k cs, F k → W.heap[k]? = some (.cells cs 5 (0, 0)) → W'.heap[k]? = W.heap[k]?) (hF : ∀ k, F k → k < W.heap.size → F' k) : BytesAt W' F' v b := by
  rcases h with h | ⟨q, c, ds, h1, h2, h3, h4, h5⟩
  · exact .inl h
  · exact .inr ⟨q, c, ds, h1, h2, hF q h3 (blk_lt h4), (hm q ds h3 h4).trans h4, h5⟩
theorem OutAt.move {W W' : World} {F F' : Nat → Prop} {v : Value} {b : List Int} (h : OutAt W F v b) (hm : ∀ k cs, F k → W.heap[k]? = some (.cells cs 3 (0, 0)) → W'.heap[k]? = W.heap[k]?) (hF : ∀ k, F k → k < W.heap.size → F' k) : OutAt W' F' v b := by
  rcases h with h | ⟨q, off, c, ds, h1, h2, h3, h3', h4, h5⟩
  · exact .inl h
  · exact .inr ⟨q, off, c, ds, h1, h2, h3, hF q h3' (blk_lt h4), (hm q ds h3' h4).trans h4, h5⟩
theorem MapAt.move {W W' : World} {F F' : Nat → Prop} {bm n : Nat} {m : ByteArray → Option (List Int)} (h : MapAt W F bm n m) (hm : ∀ k cs, F k → W.heap[k]? = some (.cells cs 5 (0, 0)) → W'.heap[k]? = W.heap[k]?)
    (hm2 : ∀ k es clock, F k → W.heap[k]? = some (.map es clock) → W'.heap[k]? = W.heap[k]?) (hF : ∀ k, F k → k < W.heap.size → F' k) : MapAt W' F' bm n m := by
  obtain ⟨D, ⟨es, clock, hb, hr⟩, hbF, hk⟩ := h
  refine ⟨D, ⟨es, clock, (hm2 bm es clock hbF hb).trans hb, hr⟩, hF bm hbF (blk_lt hb), fun k hkl => ⟨(hk k hkl).1, fun b hb' => ?_⟩⟩
  obtain ⟨v, h1, h2⟩ := (hk k hkl).2 b hb'
  exact ⟨v, h1, h2.move hm hF⟩
theorem BAt.move {W W' : World} {F F' : Nat → Prop} {g n : Nat} {S : BSt} (h : BAt W F g n S) (hm : ∀ k, F k → k < W.heap.size → W'.heap[k]? = W.heap[k]?) (hF : ∀ k, F k → k < W.heap.size → F' k) : BAt W' F' g n S := by
  obtain ⟨bm, vo, hb, hbF, hM, hO⟩ := h
  exact ⟨bm, vo, (hm g hbF (blk_lt hb)).trans hb, hF g hbF (blk_lt hb), hM.move (fun k cs hk h => hm k hk (blk_lt h)) (fun k es cl hk h => hm k hk (blk_lt h)) hF, hO.move (fun k cs hk h => hm k hk (blk_lt h)) hF⟩
theorem BAt.below {W W' : World} {F : Nat → Prop} {g n : Nat} {S : BSt} (h : BAt W F g n S) (hb : Below W.heap.size W W') : BAt W' F g n S := h.move (fun k _ hk => hb.block k hk) (fun _ h _ => h)
theorem OutAt.of_own {W W' : World} {F : Nat → Prop} {v : Value} {l : List Int} (h : W'.ownsRow W.heap.size 3 1 v l.length (l.map (fun x => Value.int .i64 x))) : OutAt W' (fun k => F k ∨ (W.heap.size ≤ k ∧ k < W'.heap.size)) v l := by
  rcases h.2 with ⟨rfl, h0⟩ | ⟨g, cap, cur, rfl, hbg, hgb, hnc, hcm, hcs, htake⟩
  · have : l = [] := List.eq_nil_of_length_eq_zero h0
    subst this
    exact .inl ⟨none, rfl, rfl⟩
  · rcases Nat.eq_zero_or_pos cap with h0 | h0
    · subst h0
      have : l = [] := List.eq_nil_of_length_eq_zero (by omega)
      subst this
      exact .inl ⟨_, rfl, rfl⟩
    · refine .inr ⟨g, 0, cap, cur, rfl, hnc, h0, .inr ⟨hbg, blk_lt hgb⟩, hgb, by omega, by omega, fun i hi => ?_⟩
      have h1 : (l.map (fun x => Value.int .i64 x))[i]? = some (.int .i64 l[i]) := by rw [List.getElem?_map, List.getElem?_eq_getElem hi]; rfl
      rw [← htake, List.getElem?_take] at h1
      split at h1
      · rw [Nat.zero_add, ← Array.getElem?_toList]; exact h1
      · cases h1
theorem C_i64 {W : World} {ad : Addr} {n : Nat} {l : List Int} (hr : (Kd.int .i64).C W (some ad) n l) : ∀ j u, (l.map (fun x => Value.int .i64 x))[j]? = some u → W.cell? (ad.add j) = some u := by
  intro j u hu
  rw [List.getElem?_map, Option.map_eq_some_iff] at hu
  obtain ⟨x, hx, rfl⟩ := hu
  have hl : j < l.length := (List.getElem?_eq_some_iff.1 hx).1
  obtain ⟨ad', e, h⟩ := hr.2.2 (by have := hr.1; omega)
  injection e with e
  subst e
  obtain ⟨cs, h1, h2, h3⟩ := h j x hx
  have h2' : cs = [.int .i64 x] := h2
  have := h3 0 (.int .i64 x) (by rw [h2']; rfl)
  rw [show j * (Kd.int .i64).sz + 0 = j from Nat.mul_one j] at this
  exact this
theorem info3' : (Tryd.prog.info? 3).map (fun i => (i.zero, i.size, i.bytes)) = some (some (.int .i64 0), 1, 8) := by kernel_rfl
theorem out_append {W : World} {F : Nat → Prop} {v : Value} {l : List Int} (h : OutAt W F v l) (A : Option Addr) (c : Nat) (l2 : List Int) (hr : (Kd.int .i64).C W A l2.length l2) (hn : l.length + l2.length ≤ 1000000) (ty : TypeId) :
    ∃ v' W', (Builtin.append_ #[23, 23] ty #[v, .slice A l2.length c]).run Tryd.prog W = .ok v' W' ∧ OutAt W' (fun k => F k ∨ (W.heap.size ≤ k ∧ k < W'.heap.size)) v' (l ++ l2) ∧ (W'.os = W.os ∧ W'.tape = W.tape ∧ W'.output = W.output) ∧ W.heap.size ≤ W'.heap.size ∧
      ∀ k, k < W.heap.size → (F k → ∀ cs, W.heap[k]? ≠ some (.cells cs 3 (0, 0))) → W'.heap[k]? = W.heap[k]? := by
  have ht : Tryd.prog.underlying 23 = some (.slice 3) := by kernel_rfl
  obtain ⟨i, hi, hzz⟩ := Option.map_eq_some_iff.1 info3'
  simp only [Prod.mk.injEq] at hzz
  obtain ⟨hz, hs, hb⟩ := hzz
  have hmono : ∀ {v : Value} {l : List Int}, OutAt W F v l → OutAt W (fun k => F k ∨ (W.heap.size ≤ k ∧ k < W.heap.size)) v l := fun h => h.move (fun _ _ _ _ => rfl) (fun _ h _ => .inl h)
  rcases Nat.eq_zero_or_pos l2.length with h0 | h0
  · have e2 : l2 = [] := List.eq_nil_of_length_eq_zero h0
    subst e2
    obtain ⟨A0, c0, rfl, hc0⟩ := h.form
    refine ⟨.slice A0 l.length c0, W, ?_, by rw [List.append_nil]; exact hmono h, ⟨rfl, rfl, rfl⟩, Nat.le_refl _, fun _ _ _ => rfl⟩
    cases A <;> cases A0 <;> simp [Builtin.append_, run_underlying ht, sizeOf, typeInfo, hi, Builtin.lenOf, Builtin.firstCells, loadCells, loadCellsFrom, storeCells, Result.andThen, hc0]
  obtain ⟨ad, rfl, _⟩ := hr.2.2 h0
  have hnews := C_i64 hr
  have hml : max l.length l2.length ≤ 1000000 := by omega
  have hmx : l.length + l2.length ≤ maxLen := by simp only [maxLen]; omega
  rcases h with ⟨A0, rfl, rfl⟩ | ⟨g, off, cap, cs, rfl, h2, h3, h4, h5, h6, h7, h8⟩
  · have fin : ∀ {v' : Value} {W' : World}, W'.ownsRow W.heap.size 3 1 v' (0 + l2.length) ([] ++ l2.map (fun x => Value.int .i64 x)) → W.grownBy W' none → (OutAt W' (fun k => F k ∨ (W.heap.size ≤ k ∧ k < W'.heap.size)) v' ([] ++ l2) ∧ (W'.os = W.os ∧ W'.tape = W.tape ∧ W'.output = W.output) ∧ W.heap.size ≤ W'.heap.size ∧
      ∀ k, k < W.heap.size → (F k → ∀ cs, W.heap[k]? ≠ some (.cells cs 3 (0, 0))) → W'.heap[k]? = W.heap[k]?) := fun ho hg => by
      rw [Nat.zero_add, List.nil_append] at ho
      exact ⟨OutAt.of_own ho, ⟨hg.os, hg.tape, hg.output⟩, hg.size, fun k hk _ => hg.block k hk (by simp)⟩
    cases A0 with
    | none =>
      obtain ⟨v', w', hrun, ho, hg, _⟩ := run_append_own (P := Tryd.prog) W W.heap.size 23 ty 3 i (.int .i64 0) 1 8 ht hi hz hs hb rfl (by omega) (.slice none 0 0) 0 [] (World.ownsRow_nil _ _ _ _) ad l2.length c (l2.map (fun x => Value.int .i64 x)) (by simp) hnews (by simp [Value.oneCell']) (by simp only [List.length_nil, Nat.zero_add] at hmx; omega) (by omega) (Nat.le_refl _)
      exact ⟨v', w', hrun, fin ho hg⟩
    | some b =>
      obtain ⟨v', w', hrun, ho, hg⟩ := run_append_arg_grows (P := Tryd.prog) W 23 ty 3 i (.int .i64 0) 1 8 ht hi hz hs hb rfl (by omega) b 0 0 [] rfl (by simp) ad l2.length c (l2.map (fun x => Value.int .i64 x)) (by simp) hnews (by omega) (by simp only [List.length_nil, Nat.zero_add] at hmx; omega) (by omega)
      exact ⟨v', w', hrun, fin ho hg⟩
  · have holds : ∀ j u, (l.map (fun x => Value.int .i64 x))[j]? = some u → W.cell? ((⟨g, off, none⟩ : Addr).add j) = some u := fun j u hu => by
      rw [List.getElem?_map, Option.map_eq_some_iff] at hu
      obtain ⟨x, hx, rfl⟩ := hu
      obtain ⟨hl, rfl⟩ := List.getElem?_eq_some_iff.1 hx
      exact (congrArg W.cell? (Addr.add_lit g off j)).trans ((blk_cell h5 _).trans (h8 j hl))
    by_cases hroom : l.length + l2.length ≤ cap
    · have hrun := run_append_room_cells (P := Tryd.prog) W 23 ty 3 i ht hi g off l.length cap ad l2.length c (l2.map (fun x => Value.int .i64 x)) (by simp [hs]) hnews (by simp [Value.oneCell']) hroom
        (fun j hj => by rw [blk_cell h5, hs, Array.getElem?_eq_getElem (by rw [List.length_map] at hj; omega)]; rfl) (fun j _ => blk_frozen h5 _)
      rw [hs, Nat.mul_one] at hrun
      obtain ⟨cs', a1, a2, a3, a4, a5⟩ := heap_setCells g 3 (l2.map (fun x => Value.int .i64 x)) (off + l.length) W cs h5 (by rw [List.length_map]; omega)
      have hbl : ∀ k, k ≠ g → (W.setCells g (off + l.length) (l2.map (fun x => Value.int .i64 x))).heap[k]? = W.heap[k]? := fun k hk => heap_setCells_other hk _ _ _
      have hsz := size_setCells' g (l2.map (fun x => Value.int .i64 x)) (off + l.length) W
      refine ⟨_, _, hrun, .inr ⟨g, off, cap, cs', by rw [List.length_append], by rw [List.length_append]; exact hroom, h3, .inl h4, a1, by omega, by omega, fun j hj => ?_⟩, strm_setCells _ _ _ _, by omega, fun k hk hne => hbl k (fun e => by subst e; exact hne h4 cs h5)⟩
      by_cases hjl : j < l.length
      · rw [a3 _ (by omega), h8 j hjl]
        simp [List.getElem_append, hjl]
      · have hj2 : j - l.length < l2.length := by rw [List.length_append] at hj; omega
        have := a5 (j - l.length) (.int .i64 l2[j - l.length]) (by rw [List.getElem?_map, List.getElem?_eq_getElem hj2]; rfl)
        rw [show off + j = off + l.length + (j - l.length) by omega, this]
        simp [List.getElem_append, hjl]
    · obtain ⟨v', w', hrun, ho, hg⟩ := run_append_arg_grows (P := Tryd.prog) W 23 ty 3 i (.int .i64 0) 1 8 ht hi hz hs hb rfl (by omega) ⟨g, off, none⟩ l.length cap (l.map (fun x => Value.int .i64 x)) (by simp) holds ad l2.length c (l2.map (fun x => Value.int .i64 x)) (by simp) hnews (by omega) hmx (by omega)
      rw [← List.map_append, ← List.length_append] at ho
      exact ⟨v', w', hrun, OutAt.of_own ho, ⟨hg.os, hg.tape, hg.output⟩, hg.size, fun k hk _ => hg.block k hk (by simp)⟩
end
end Go.Proofs.YtcallfgihohldaaDoor.PA
namespace Go.Proofs.YtcallfgihohldaaDoor.PA
section

open Go.RowKit Go.Proofs.YtcallfgihohldaaDoorW.PrintWords Go.Proofs.YtcallfgihohldaaDoorW.PrintLast Go.Proofs.YtcallfgihohldaaDoorW.PrintMore
attribute [local go_sem] max2_int min2_int max_two min_two max_three min_three max_four min_four
set_option linter.unusedVariables false
set_option linter.unusedSimpArgs false
set_option maxHeartbeats 1000000 in
theorem script_calls {W : World} {F : Nat → Prop} {g n : Nat} {S : BSt} (h : BAt W F g n S) (hF : ∀ k, F k → k < W.heap.size) (A : Option Addr) (c : Nat) (l2 : List Int) (hr : (Kd.int .i64).C W A l2.length l2) (hn : S.outs.length + l2.length ≤ 1000000) :
    Calls Tryd.prog 11 #[.pointer (some ⟨g, 0, none⟩), .slice A l2.length c] W fun e W' => e = .returned (.tuple #[]) ∧ ∃ F', BAt W' F' g n (S.script l2) ∧ Went F F' W W' := by
  obtain ⟨bm, vo, hb, hFg, hM, hO⟩ := h
  have c3 : W.cell? ⟨g, 3, none⟩ = some vo := blk_cell hb 3
  obtain ⟨v', W1, hrun, hO1, hst, hsz, hbl⟩ := out_append hO A c l2 hr hn 23
  have hb1 : W1.heap[g]? = some (.cells #[.map (some bm), .int .i64 S.ver, .string S.root, vo, .int .i64 S.calls] 55 (0, 0)) := (hbl g (blk_lt hb) (fun _ cs e => by
    rw [hb] at e
    injection e with e; injection e with _ h6
    cases h6)).trans hb
  have hM1 : MapAt W1 (fun k => F k ∨ (W.heap.size ≤ k ∧ k < W1.heap.size)) bm n S.m := hM.move (fun k cs hk e => hbl k (blk_lt e) (fun _ cs' e' => by
    rw [e] at e'
    injection e' with e'; injection e' with _ h6
    cases h6)) (fun k es cl hk e => hbl k (blk_lt e) (fun _ cs' e' => by
    rw [e] at e'
    cases e')) (fun k hk _ => .inl hk)
  have f3 : W1.frozen? ⟨g, 3, none⟩ = false := blk_frozen hb1 3
  have q3 : W1.cell? ⟨g, 3, none⟩ = some vo := blk_cell hb1 3
  obtain ⟨A0, c0, rfl, _⟩ := hO.form
  obtain ⟨A1, n1, c1, rfl⟩ : ∃ A1 n1 c1, v' = .slice A1 n1 c1 := by
    obtain ⟨A1, c1, e, _⟩ := hO1.form
    exact ⟨A1, _, c1, e⟩
  have X1 := Aside0.mk hst
  have X2 := Aside0.mk hsz
  have X3 := Aside0.mk hbl
  have X4 := Aside0.mk hb1
  have X5 := Aside0.mk hM1
  have X6 := Aside0.mk hO1
  have X7 := Aside0.mk hFg
  have X8 := Aside0.mk hrun
  have X9 := Aside0.mk hb
  have X10 := Aside0.mk hF
  clear hb hFg hM hO hr hn hrun hO1 hst hsz hbl hb1 hM1 hF
  go_enter Tryd.func11, Tryd.ntmps11
  go_wp2_with (first | (at_builtin; refine wpList_append_ran rfl (.tmp 10) (.tmp 11) 23 rfl _ _ _ rfl rfl X8.out ?_) | fail)
  go_end0
  have g1 := grown_one W1 g 3 (.slice A1 n1 c1)
  have hk : ∀ k, k < W1.heap.size → k ≠ g → (W1.setCell ⟨g, 3, none⟩ (.slice A1 n1 c1)).heap[k]? = W1.heap[k]? := fun k hl hn => g1.block k hl (fun e => hn (Option.some.inj e))
  have hs2 := g1.size
  refine ⟨rfl, (fun k => F k ∨ (W.heap.size ≤ k ∧ k < W1.heap.size)), ⟨bm, _, heap_setCell_same W1 g 3 _ 55 (.slice A1 n1 c1) X4.out, .inl X7.out, X5.out.keep X4.out (by decide) hk, X6.out.keep X4.out (by decide) hk⟩, ⟨⟨g1.os.trans X1.out.1, g1.tape.trans X1.out.2.1, g1.output.trans X1.out.2.2, Nat.le_trans X2.out g1.size, fun k hkl hkF => ?_⟩, fun k hk => ?_⟩⟩
  · exact (hk k (Nat.lt_of_lt_of_le hkl X2.out) (fun e => hkF (by rw [e]; exact X7.out))).trans (X3.out k hkl (fun h => absurd h hkF))
  · rcases hk with h | h
    · exact .inl h
    · exact .inr ⟨h.1, Nat.lt_of_lt_of_le h.2 hs2⟩
end
end Go.Proofs.YtcallfgihohldaaDoor.PA
namespace Go.Proofs
section

open Go.Shelf
def Tryd.lays160_ren : Go.Shelf.Ren := ⟨fun | 160 => 27 | 232 => 38 | 231 => 37 | 227 => 39 | 234 => 41 | 233 => 40 | 236 => 43 | 235 => 42 | 228 => 50 | 271 => 53 | 151 => 52 | 197 => 51 | 120 => 59 | 152 => 58 | 260 => 57 | 137 => 71 | 119 => 72 | 224 => 73 | 225 => 74 | 217 => 81 | 266 => 83 | n => n, fun | 9 => 9 | 4 => 4 | 3 => 3 | 5 => 5 | 117 => 73 | 116 => 72 | 0 => 0 | 124 => 76 | 21 => 21 | 105 => 82 | 46 => 88 | 119 => 102 | 139 => 105 | 138 => 104 | n => n, fun | 3 => 0 | 4 => 1 | n => n⟩
theorem Tryd.lays160 : Go.Proofs.Lays.n160 Tryd.prog Tryd.lays160_ren := {
  mixed := by kernel_rfl
  f119 := Tryd.func72.trans (congrArg some (by kernel_rfl))
  f120 := Tryd.func59.trans (congrArg some (by kernel_rfl))
  f137 := Tryd.func71.trans (congrArg some (by kernel_rfl))
  f151 := Tryd.func52.trans (congrArg some (by kernel_rfl))
  f152 := Tryd.func58.trans (congrArg some (by kernel_rfl))
  f160 := Tryd.func27.trans (congrArg some (by kernel_rfl))
  f197 := Tryd.func51.trans (congrArg some (by kernel_rfl))
  f217 := Tryd.func81.trans (congrArg some (by kernel_rfl))
  f224 := Tryd.func73.trans (congrArg some (by kernel_rfl))
  f225 := Tryd.func74.trans (congrArg some (by kernel_rfl))
  f227 := Tryd.func39.trans (congrArg some (by kernel_rfl))
  f228 := Tryd.func50.trans (congrArg some (by kernel_rfl))
  f231 := Tryd.func37.trans (congrArg some (by kernel_rfl))
  f232 := Tryd.func38.trans (congrArg some (by kernel_rfl))
  f233 := Tryd.func40.trans (congrArg some (by kernel_rfl))
  f234 := Tryd.func41.trans (congrArg some (by kernel_rfl))
  f235 := Tryd.func42.trans (congrArg some (by kernel_rfl))
  f236 := Tryd.func43.trans (congrArg some (by kernel_rfl))
  f260 := Tryd.func57.trans (congrArg some (by kernel_rfl))
  f266 := Tryd.func83.trans (congrArg some (by kernel_rfl))
  f271 := Tryd.func53.trans (congrArg some (by kernel_rfl))
  t0 := Tryd.underlying0
  a0 := Tryd.isAgg0
  z0 := Tryd.sizeOf0
  v0 := Tryd.zeroValue0
  t3 := Tryd.underlying3
  a3 := Tryd.isAgg3
  z3 := Tryd.sizeOf3
  v3 := Tryd.zeroValue3
  t4 := Tryd.underlying4
  a4 := Tryd.isAgg4
  z4 := Tryd.sizeOf4
  v4 := Tryd.zeroValue4
  t5 := Tryd.underlying5
  a5 := Tryd.isAgg5
  z5 := Tryd.sizeOf5
  v5 := Tryd.zeroValue5
  t9 := Tryd.underlying9
  a9 := Tryd.isAgg9
  z9 := Tryd.sizeOf9
  v9 := Tryd.zeroValue9
  t21 := Tryd.underlying21
  a21 := Tryd.isAgg21
  z21 := Tryd.sizeOf21
  v21 := Tryd.zeroValue21
  t46 := Tryd.underlying88
  a46 := Tryd.isAgg88
  z46 := Tryd.sizeOf88
  v46 := Tryd.zeroValue88
  t105 := Tryd.underlying82
  a105 := Tryd.isAgg82
  z105 := Tryd.sizeOf82
  v105 := Tryd.zeroValue82
  t116 := Tryd.underlying72
  a116 := Tryd.isAgg72
  z116 := Tryd.sizeOf72
  t117 := Tryd.underlying73
  a117 := Tryd.isAgg73
  z117 := Tryd.sizeOf73
  v117 := Tryd.zeroValue73
  t119 := Tryd.underlying102
  a119 := Tryd.isAgg102
  z119 := Tryd.sizeOf102
  t124 := Tryd.underlying76
  a124 := Tryd.isAgg76
  z124 := Tryd.sizeOf76
  v124 := Tryd.zeroValue76
  t138 := Tryd.underlying104
  a138 := Tryd.isAgg104
  z138 := Tryd.sizeOf104
  v138 := Tryd.zeroValue104
  t139 := Tryd.underlying105
  a139 := Tryd.isAgg105
  z139 := Tryd.sizeOf105
  v139 := Tryd.zeroValue105
  g3 := by kernel_rfl
  g4 := by kernel_rfl }
end
end Go.Proofs
namespace Go.Proofs.YtcallfgihohldaaDoor.PA
section

open Go.RowKit Go.Proofs.YtcallfgihohldaaDoorW.PrintWords Go.Proofs.YtcallfgihohldaaDoorW.PrintLast Go.Proofs.YtcallfgihohldaaDoorW.PrintMore
attribute [local go_sem] max2_int min2_int max_two min_two max_three min_three max_four min_four
set_option linter.unusedVariables false
set_option linter.unusedSimpArgs false
theorem dropWhile_nil {α : Type} (p : α → Bool) : ∀ l : List α, l.dropWhile p = [] ↔ ∀ x ∈ l, p x = true
  | [] => by simp
  | a :: l => by
    rw [List.dropWhile_cons]
    cases h : p a
    · simp [h]
    · simp [h, dropWhile_nil p l]
theorem trimS_nil (l cs : List UInt8) : Lib.trimS l cs = [] ↔ ∀ x ∈ l, cs.contains x = true := by
  unfold Lib.trimS Lib.trimLeftS Lib.trimRightS
  rw [dropWhile_nil]
  constructor
  · intro h x hx
    have h1 : x ∈ l.reverse.takeWhile (cs.contains ·) ++ l.reverse.dropWhile (cs.contains ·) := by
      rw [List.takeWhile_append_dropWhile]
      exact List.mem_reverse.2 hx
    rcases List.mem_append.1 h1 with h2 | h2
    · exact List.all_eq_true.1 (List.all_takeWhile (p := (cs.contains ·)) (l := l.reverse)) x h2
    · exact h x (List.mem_reverse.2 h2)
  · intro h x hx
    have h1 := List.mem_reverse.1 hx
    exact h x (List.mem_reverse.1 ((List.dropWhile_suffix (cs.contains ·)).subset h1))
def nameCut : ByteArray := ⟨#[97, 98, 99, 100, 101, 102, 103, 104, 105, 106, 107, 108, 109, 110, 111, 112, 113, 114, 115, 116, 117, 118, 119, 120, 121, 122, 48, 49, 50, 51, 52, 53, 54, 55, 56, 57, 45]⟩
theorem okC_cut (c : UInt8) : nameCut.data.toList.contains c = okC c := by
  have h : (List.range 256).all (fun n => nameCut.data.toList.contains (UInt8.ofNat n) == okC (UInt8.ofNat n)) = true := by kernel_rfl
  have := List.all_eq_true.1 h c.toNat (List.mem_range.2 c.toNat_lt)
  rwa [UInt8.ofNat_toNat, beq_iff_eq] at this
theorem name_val {s : ByteArray} (h0 : s.size ≠ 0) (h1 : s.size ≤ 40) : (Lib.trimS s.data.toList nameCut.data.toList = []) ↔ nameB s = true := by
  rw [trimS_nil]
  unfold nameB
  have hne : (s.toList == []) = false := by
    rw [Lib.toList_data]
    cases h : s.data.toList with
    | nil => have := Lib.size_eq s; rw [h, List.length_nil] at this; omega
    | cons _ _ => rfl
  rw [hne, decide_eq_true h1, Lib.toList_data]
  simp only [Bool.not_false, Bool.true_and, List.all_eq_true, okC_cut]
set_option maxHeartbeats 1000000 in
theorem name_calls (s : ByteArray) (W : World) : Calls Tryd.prog 15 #[.string s] W fun e W' => e = .returned (.bool (nameB s)) ∧ Below W.heap.size W W' := by
  have hcon : s.size ≤ 9223372036854775807 → Calls Tryd.prog 27 #[.string s, .string ⟨#[97, 98, 99, 100, 101, 102, 103, 104, 105, 106, 107, 108, 109, 110, 111, 112, 113, 114, 115, 116, 117, 118, 119, 120, 121, 122, 48, 49, 50, 51, 52, 53, 54, 55, 56, 57, 45]⟩] W fun e w' => e = .returned (.string ⟨(Lib.trimS s.data.toList nameCut.data.toList).toArray⟩) ∧ Below W.heap.size W w' := fun h => Any.strings_Trim_laid Tryd.lays160 (by kernel_rfl) s nameCut W h (by decide) (ascii_of_all (by decide))
  have H := Aside0.mk hcon
  clear hcon
  by_cases h0 : s.size = 0
  · have hs : s = ⟨#[]⟩ := by
      obtain ⟨⟨l⟩⟩ := s
      have : l = [] := List.eq_nil_of_length_eq_zero h0
      rw [this]
    subst hs
    go_enter Tryd.func15, Tryd.ntmps15
    go_wp2_with fail
    go_ret
    refine ⟨?_, Below.refl _ _⟩
    unfold nameB
    rw [Lib.toList_data]
    rfl
  · have hemp : s.toList.isEmpty = false := by
      rw [Lib.toList_data]
      cases h : s.data.toList with
      | nil => have := Lib.size_eq s; rw [h, List.length_nil] at this; omega
      | cons _ _ => rfl
    by_cases h1 : s.size ≤ 40
    · have d1 : decide ((s.size : Int) ≤ 40) = true := decide_eq_true (by omega)
      obtain ⟨t, ht⟩ : ∃ t : ByteArray, t = ⟨(Lib.trimS s.data.toList nameCut.data.toList).toArray⟩ := ⟨_, rfl⟩
      rw [← ht] at H
      have hE : t.toList.isEmpty = nameB s := by
        rw [Bool.eq_iff_iff, ← name_val h0 h1, Lib.toList_data, ht]
        simp
      have H0 := Aside0.mk h0
      have H1 := Aside0.mk h1
      clear h0 h1 ht
      go_enter Tryd.func15, Tryd.ntmps15
      go_wp2_with fail
      refine (H.out (by have := H1.out; omega)).mono ?_
      rintro e w' ⟨rfl, hw⟩
      go_wp2_with fail
      go_ret
      exact ⟨rfl, hw⟩
    · have d1 : decide ((s.size : Int) ≤ 40) = false := decide_eq_false (by omega)
      go_enter Tryd.func15, Tryd.ntmps15
      go_wp2_with fail
      go_ret
      refine ⟨?_, Below.refl _ _⟩
      unfold nameB
      rw [decide_eq_false h1, Bool.and_false, Bool.false_and]
      rfl
def namedI (s : ByteArray) : Int := if nameB s then 0 else 6
set_option maxHeartbeats 1000000 in
theorem named_calls (a : Addr) (s : ByteArray) (W : World) : Calls Tryd.prog 23 #[.pointer (some a), .string s] W fun e W' => e = .returned (.int .i64 (namedI s)) ∧ Below W.heap.size W W' := by
  have H := Aside0.mk (name_calls s W)
  unfold namedI
  cases hB : nameB s <;> rw [hB] at H
  all_goals
    go_enter Tryd.func23, Tryd.ntmps23
    go_wp2_with (first | (go_at_call 15; refine H.out.mono ?_; rintro e w' ⟨rfl, hw⟩) | fail)
    go_ret
    exact ⟨rfl, hw⟩
/-- A new row, made for this. -/
def FreshRow (W W' : World) (e : Nat) (v : Value) (xs : List Value) : Prop :=
  ∃ q c cs, v = .slice (some ⟨q, 0, none⟩) xs.length c ∧ xs.length ≤ c ∧ W.heap.size ≤ q ∧ W'.heap[q]? = some (.cells cs e (0, 0)) ∧ ∀ (i : Nat) (u : Value), xs[i]? = some u → cs[i]? = some u
theorem below_of_grown {a b : World} (h : a.grownBy b none) : Below a.heap.size a b := ⟨h.os, h.tape, h.output, h.size, fun k hk => h.block k hk (by simp)⟩
/-- 'append([]T{}, l...)' behind the literal: elements of one cell. -/
theorem copy_run (t e : TypeId) (z : Value) (bytes : Nat) (ht : Tryd.prog.underlying t = some (.slice e)) (hinfo : (Tryd.prog.info? e).map (fun i => (i.zero, i.size, i.bytes)) = some (some z, 1, bytes)) (hz : z.cells.size = 1) (ty : TypeId) (W : World) (A : Option Addr) (c : Nat) (xs : List Value)
    (hx : 0 < xs.length → ∃ ad, A = some ad ∧ ∀ j u, xs[j]? = some u → W.cell? (ad.add j) = some u) (hn : xs.length ≤ maxLen) (hb : xs.length * bytes ≤ 140737488355328) :
    ∃ v' W', (Builtin.append_ #[t, t] ty #[.slice (some ⟨W.heap.size, 0, none⟩) 0 0, .slice A xs.length c]).run Tryd.prog (W.alloc (.cells #[] e)) = .ok v' W' ∧ FreshRow W W' e v' xs ∧ Below W.heap.size W W' := by
  obtain ⟨i, hi, hzz⟩ := Option.map_eq_some_iff.1 hinfo
  simp only [Prod.mk.injEq] at hzz
  obtain ⟨hz0, hs, hby⟩ := hzz
  have hbel : Below W.heap.size W (W.alloc (.cells #[] e)) := below_alloc (Below.refl _ _) _
  rcases Nat.eq_zero_or_pos xs.length with h0 | h0
  · have e2 : xs = [] := List.eq_nil_of_length_eq_zero h0
    subst e2
    refine ⟨.slice (some ⟨W.heap.size, 0, none⟩) 0 0, W.alloc (.cells #[] e), ?_, ⟨W.heap.size, 0, #[], rfl, Nat.le_refl _, Nat.le_refl _, heap_alloc_new W _, fun i u hu => by simp at hu⟩, hbel⟩
    cases A <;> simp [Builtin.append_, run_underlying ht, sizeOf, typeInfo, hi, Builtin.lenOf, Builtin.firstCells, loadCells, loadCellsFrom, storeCells, Result.andThen]
  · obtain ⟨ad, rfl, hc⟩ := hx h0
    obtain ⟨v', w', hrun, ho, hg⟩ := run_append_arg_grows (P := Tryd.prog) (W.alloc (.cells #[] e)) t ty e i z 1 bytes ht hi hz0 hs hby hz (by omega) ⟨W.heap.size, 0, none⟩ 0 0 [] rfl (by simp) ad xs.length c xs (by simp) (fun j u hu => below_cell hbel (hc j u hu)) (by omega) (by simpa using hn) (by simpa using hb)
    have hsz : (W.alloc (.cells #[] e)).heap.size = W.heap.size + 1 := by simp
    refine ⟨v', w', hrun, ?_, hbel.trans ((below_of_grown hg).mono hbel.size)⟩
    rw [Nat.zero_add, List.nil_append] at ho
    rcases ho.2 with ⟨rfl, h1⟩ | ⟨q, cap, cur, rfl, hbg, hgb, hnc, hcm, hcs, htake⟩
    · omega
    · refine ⟨q, cap, cur, rfl, hnc, by omega, hgb, fun j u hu => ?_⟩
      rw [← htake, List.getElem?_take] at hu
      split at hu
      · rw [← Array.getElem?_toList]; exact hu
      · cases hu
theorem info5' : (Tryd.prog.info? 5).map (fun i => (i.zero, i.size, i.bytes)) = some (some (.int .u8 0), 1, 1) := by kernel_rfl
theorem C_u8 {W : World} {A : Option Addr} {n : Nat} {l : List Int} (hr : (Kd.int .u8).C W A n l) : 0 < l.length → ∃ ad, A = some ad ∧ ∀ j u, (l.map (fun x => Value.int .u8 x))[j]? = some u → W.cell? (ad.add j) = some u := by
  intro h0
  obtain ⟨ad', e, h⟩ := hr.2.2 (by have := hr.1; omega)
  refine ⟨ad', e, fun j u hu => ?_⟩
  rw [List.getElem?_map, Option.map_eq_some_iff] at hu
  obtain ⟨x, hx, rfl⟩ := hu
  obtain ⟨cs, h1, h2, h3⟩ := h j x hx
  have h2' : cs = [.int .u8 x] := h2
  have := h3 0 (.int .u8 x) (by rw [h2']; rfl)
  rw [show j * (Kd.int .u8).sz + 0 = j from Nat.mul_one j] at this
  exact this
theorem BytesAt.of_fresh {W W' : World} {v : Value} {b : List Int} (h : FreshRow W W' 5 v (b.map (fun x => Value.int .u8 x))) (hl : b.length ≤ 60000) : BytesAt W' (fun k => W.heap.size ≤ k ∧ k < W'.heap.size) v b := by
  obtain ⟨q, c, cs, rfl, h1, h2, h3, h4⟩ := h
  rw [List.length_map] at *
  exact .inr ⟨q, c, cs, rfl, ⟨h1, hl⟩, ⟨h2, blk_lt h3⟩, h3, fun i hi => h4 i _ (by rw [List.getElem?_map, List.getElem?_eq_getElem hi]; rfl)⟩
set_option maxHeartbeats 1000000 in
set_option maxRecDepth 100000 in
/-- Clone of a row of bytes that may be nil. -/
theorem clone_calls (W : World) (A : Option Addr) (c : Nat) (b : List Int) (hr : (Kd.int .u8).C W A b.length b) (hl : b.length ≤ 60000) :
    Calls Tryd.prog 25 #[.slice A b.length c] W fun e W' => ∃ v, e = .returned v ∧ BytesAt W' (fun k => W.heap.size ≤ k ∧ k < W'.heap.size) v b ∧ Below W.heap.size W W' := by
  cases A with
  | none =>
    have hb : b = [] := by
      rcases Nat.eq_zero_or_pos b.length with h0 | h0
      · exact List.eq_nil_of_length_eq_zero h0
      · obtain ⟨ad, h, _⟩ := hr.2.2 h0
        cases h
    subst hb
    clear hr hl
    have heq := Lib.run_eql_slice_nil (P := Tryd.prog) W 30 5 none 0 c 0 0 Tryd.underlying30
    go_enter Tryd.func25, Tryd.ntmps25
    go_wp2_with fail
    go_ret
    exact ⟨_, rfl, .inl ⟨none, rfl, rfl⟩, Below.refl _ _⟩
  | some ad =>
    obtain ⟨v', W', hrun, hf, hB⟩ := copy_run 30 5 (.int .u8 0) 1 (by kernel_rfl) info5' rfl 30 W (some ad) c (b.map (fun x => Value.int .u8 x)) (by rw [List.length_map]; exact C_u8 hr) (by rw [List.length_map]; simp only [maxLen]; omega) (by rw [List.length_map]; omega)
    rw [List.length_map] at hrun
    have H1 := Aside0.mk hrun
    have H2 := Aside0.mk hf
    have H3 := Aside0.mk hB
    have H4 := Aside0.mk hl
    clear hrun hf hB hl hr
    have heq := Lib.run_eql_slice_nil (P := Tryd.prog) W 30 5 (some ad) b.length c 0 0 Tryd.underlying30
    go_enter Tryd.func25, Tryd.ntmps25
    go_wp2_with (first | (at_builtin; refine wpList_append_ran rfl (.tmp 5) (.tmp 6) 30 rfl _ _ _ rfl rfl H1.out ?_) | fail)
    go_ret
    exact ⟨_, rfl, BytesAt.of_fresh H2.out H4.out, H3.out⟩
end
end Go.Proofs.YtcallfgihohldaaDoor.PA
namespace Go.Proofs.YtcallfgihohldaaDoor.PA
section

open Go.RowKit Go.Proofs.YtcallfgihohldaaDoorW.PrintWords Go.Proofs.YtcallfgihohldaaDoorW.PrintLast Go.Proofs.YtcallfgihohldaaDoorW.PrintMore
attribute [local go_sem] max2_int min2_int max_two min_two max_three min_three max_four min_four
set_option linter.unusedVariables false
set_option linter.unusedSimpArgs false
theorem law9 : Go.Maps.Keyed Tryd.prog 9 := Go.Maps.string_keyed Tryd.underlying9
theorem litS_inj {a b : ByteArray} (h : litS a = litS b) : a = b := by
  injection h with h
  obtain ⟨⟨a⟩⟩ := a
  obtain ⟨⟨b⟩⟩ := b
  simp only at h
  rw [h]
theorem litS_ne {a b : ByteArray} (h : a ≠ b) : litS a ≠ litS b := fun e => h (litS_inj e)
theorem litS_key (a : ByteArray) : WideAt.IsKeyLit (litS a) := trivial
theorem key9 {s : ByteArray} (h : s.size ≤ maxLen) : keyOf Tryd.prog 9 (.string s) = some (litS s) := Go.WideMaps.keyOf_string_mk Tryd.underlying9 h
def MapK (W : World) (F : Nat → Prop) (D : DataW Value) (m : ByteArray → Option (List Int)) : Prop :=
  ∀ k : ByteArray, k.size ≤ maxLen → (Maps.has D (litS k) = (m k).isSome) ∧ ∀ b, m k = some b → ∃ v, (∀ z, D.atKey (litS k) z = .held v) ∧ BytesAt W F v b
theorem MapK.put {W W' : World} {F F' : Nat → Prop} {m : ByteArray → Option (List Int)} {D : DataW Value} (hk : MapK W F D m) (hD : Go.Maps.IsMap D) (nm : ByteArray) (v : Value) (b : List Int) (hmove : ∀ v b, BytesAt W F v b → BytesAt W' F' v b) (hv : BytesAt W' F' v b) :
    MapK W' F' (D.put (litS nm) (.held v)) (fun k => if k = nm then some b else m k) := by
  intro k hkl
  by_cases e : k = nm
  · subst e
    refine ⟨by rw [Go.Maps.has_put_same hD (litS_key _)]; simp, fun b' hb' => ?_⟩
    simp only [if_true, Option.some.injEq] at hb'
    subst hb'
    exact ⟨v, fun z => Go.Maps.atKey_put_same hD (litS_key _) _ _, hv⟩
  · refine ⟨by rw [Go.Maps.has_put_other (litS_ne e)]; simp only [if_neg e]; exact (hk k hkl).1, fun b' hb' => ?_⟩
    simp only [if_neg e] at hb'
    obtain ⟨v', h1, h2⟩ := (hk k hkl).2 b' hb'
    exact ⟨v', fun z => by rw [Go.Maps.atKey_put_other (litS_ne e)]; exact h1 z, hmove _ _ h2⟩
theorem MapK.del {W W' : World} {F F' : Nat → Prop} {m : ByteArray → Option (List Int)} {D : DataW Value} (hk : MapK W F D m) (nm : ByteArray) (hmove : ∀ v b, BytesAt W F v b → BytesAt W' F' v b) :
    MapK W' F' (D.del (litS nm)) (fun k => if k = nm then none else m k) := by
  intro k hkl
  by_cases e : k = nm
  · subst e
    refine ⟨by rw [Go.Maps.has_del_same]; simp, fun b' hb' => ?_⟩
    simp at hb'
  · refine ⟨by rw [Go.Maps.has_del_other (litS_ne e)]; simp only [if_neg e]; exact (hk k hkl).1, fun b' hb' => ?_⟩
    simp only [if_neg e] at hb'
    obtain ⟨v', h1, h2⟩ := (hk k hkl).2 b' hb'
    exact ⟨v', fun z => by rw [Go.Maps.atKey_del_other (litS_ne e)]; exact h1 z, hmove _ _ h2⟩
theorem nameB_size {s : ByteArray} (h : nameB s = true) : s.size ≤ 40 := by
  unfold nameB at h
  simp only [Bool.and_eq_true, decide_eq_true_eq] at h
  exact h.1.2
set_option maxHeartbeats 1000000 in
theorem told_calls (o : Int) (W : World) : Calls Tryd.prog 26 #[.int .i64 o] W fun e W' => e = .returned (.int .i64 (toldI o)) ∧ W' = W := by
  by_cases h : o = 0
  · subst h
    go_enter Tryd.func26, Tryd.ntmps26
    go_wp2_with fail
    go_ret
    exact ⟨rfl, rfl⟩
  · have e : toldI o = 15 := if_pos h
    have hb : (o != 0) = true := bne_iff_ne.2 h
    rw [e]
    clear e h
    go_enter Tryd.func26, Tryd.ntmps26
    go_wp2_with fail
    go_ret
    exact ⟨rfl, rfl⟩
theorem cell_blk_lt {W : World} {p : Addr} {u : Value} (h : W.cell? p = some u) : p.block < W.heap.size := by
  rcases Nat.lt_or_ge p.block W.heap.size with h' | h'
  · exact h'
  · exfalso
    unfold World.cell? at h
    rw [Array.getElem?_eq_none h'] at h
    simp at h
theorem cell_of_blk {W W' : World} {p : Addr} (h : W'.heap[p.block]? = W.heap[p.block]?) : W'.cell? p = W.cell? p := by
  unfold World.cell?
  rw [h]
theorem add_block (ad : Addr) (j : Nat) : (ad.add j).block = ad.block := by
  unfold Addr.add
  split <;> rfl
/-- A row of the caller's stays while the store's own turns. -/
theorem C_chg {k : IntKind} {W W' : World} {F : Nat → Prop} {A : Option Addr} {n : Nat} {l : List Int} (hc : Chg F W W') (hA : ∀ ad, A = some ad → ¬ F ad.block) (h : (Kd.int k).C W A n l) : (Kd.int k).C W' A n l :=
  ⟨h.1, h.2.1, fun h0 => by
    obtain ⟨ad, e, hh⟩ := h.2.2 h0
    refine ⟨ad, e, fun j p hj => ?_⟩
    obtain ⟨cs, h1, h2, h3⟩ := hh j p hj
    refine ⟨cs, h1, h2, fun q u hu => ?_⟩
    have h4 := h3 q u hu
    have h5 := cell_blk_lt h4
    exact (cell_of_blk (hc.block _ h5 (by rw [add_block]; exact hA ad e))).trans h4⟩
theorem put_end {w2 w3 w4 : World} {F : Nat → Prop} {g n bm : Nat} {S1 : BSt} {nm : ByteArray} {b : List Int} {vo v : Value} {D : DataW Value} (hb : w2.heap[g]? = some (.cells #[.map (some bm), .int .i64 S1.ver, .string S1.root, vo, .int .i64 S1.calls] 55 (0, 0)))
    (hown : w2.ownsMap Tryd.prog 9 tokR bm n D) (hk : MapK w2 F D S1.m) (hO : OutAt w2 F vo S1.outs) (hbF : F bm) (hgF : F g) (hB3 : Below w2.heap.size w2 w3) (hv : BytesAt w3 (fun k => w2.heap.size ≤ k ∧ k < w3.heap.size) v b)
    (hown4 : w4.ownsMap Tryd.prog 9 tokR bm (n + 1) (D.put (litS nm) (.held v))) (ht : w3.mapTurned w4 bm) : ∃ F', BAt w4 F' g (n + 1) (S1.set nm (some b)) ∧ Went F F' w2 w4 := by
  have hg := ht.grown
  have hIM := hown.isMap
  obtain ⟨es, clock, hbm, _⟩ := hown
  have hlt := blk_lt hbm
  have h23 : ∀ k, k < w2.heap.size → k ≠ bm → w4.heap[k]? = w2.heap[k]? := fun k hk hne => (hg.block k (Nat.lt_of_lt_of_le hk hB3.size) (fun e => hne (Option.some.inj e))).trans (hB3.block k hk)
  have hne : ∀ (k : Nat) (cs : Array Value) (t : TypeId), w2.heap[k]? = some (.cells cs t (0, 0)) → k ≠ bm := fun k cs t h e => by
    subst e
    rw [hbm] at h
    cases h
  have hcell : ∀ (k : Nat) (cs : Array Value) (t : TypeId), w2.heap[k]? = some (.cells cs t (0, 0)) → w4.heap[k]? = w2.heap[k]? := fun k cs t h => h23 k (blk_lt h) (hne k cs t h)
  refine ⟨fun k => F k ∨ (w2.heap.size ≤ k ∧ k < w4.heap.size), ⟨bm, vo, (hcell _ _ _ hb).trans hb, .inl hgF, ⟨_, hown4, .inl hbF, ?_⟩, hO.move (fun k cs _ h => hcell k cs 3 h) (fun k h _ => .inl h)⟩, ⟨⟨hg.os.trans hB3.os, hg.tape.trans hB3.tape, hg.output.trans hB3.output, Nat.le_trans hB3.size hg.size, fun k hk hF => h23 k hk (fun e => hF (e ▸ hbF))⟩, fun k hk => hk⟩⟩
  refine hk.put hIM nm v b (fun v b h => h.move (fun k cs _ h => hcell k cs 5 h) (fun k h _ => .inl h)) (hv.move (fun k cs h1 h => hg.block k (blk_lt h) (fun e => ?_)) (fun k h _ => .inr ⟨h.1, Nat.lt_of_lt_of_le h.2 hg.size⟩))
  have := Option.some.inj e
  omega
end
end Go.Proofs.YtcallfgihohldaaDoor.PA
namespace Go.Proofs.YtcallfgihohldaaDoor.PA
section

open Go.RowKit Go.Proofs.YtcallfgihohldaaDoorW.PrintWords Go.Proofs.YtcallfgihohldaaDoorW.PrintLast Go.Proofs.YtcallfgihohldaaDoorW.PrintMore
attribute [local go_sem] max2_int min2_int max_two min_two max_three min_three max_four min_four
set_option linter.unusedVariables false
set_option linter.unusedSimpArgs false
theorem BAt.mono {W : World} {F : Nat → Prop} {g n n' : Nat} {S : BSt} (h : BAt W F g n S) (hn : n ≤ n') : BAt W F g n' S := by
  obtain ⟨bm, vo, hb, hF, ⟨D, h1, h2, h3⟩, hO⟩ := h
  exact ⟨bm, vo, hb, hF, ⟨D, h1.mono hn, h2, h3⟩, hO⟩
theorem grown_of_below {a b : World} (h : Below a.heap.size a b) : a.grownBy b none := ⟨h.os, h.tape, h.output, h.size, fun k hk _ => h.block k hk⟩
set_option maxHeartbeats 2000000 in
set_option maxRecDepth 100000 in
theorem put_calls {W : World} {F : Nat → Prop} {g n : Nat} {S : BSt} (h : BAt W F g n S) (hF : ∀ k, F k → k < W.heap.size) (hn : n < 1000000) (nm : ByteArray) (A : Option Addr) (c : Nat) (b : List Int) (hA : ∀ ad, A = some ad → ¬ F ad.block) (hr : (Kd.int .u8).C W A b.length b) :
    Calls Tryd.prog 12 #[.pointer (some ⟨g, 0, none⟩), .string nm, .slice A b.length c] W fun e W' => e = .returned (.int .i64 (S.put nm b).2) ∧ ∃ F', BAt W' F' g (n + 1) (S.put nm b).1 ∧ Went F F' W W' := by
  have Xh := Aside0.mk h
  have XF := Aside0.mk hF
  have Xn := Aside0.mk hn
  have Xr := Aside0.mk hr
  have XA := Aside0.mk hA
  clear h hF hn hr hA
  have hN := named_calls ⟨g, 0, none⟩ nm W
  cases hB : nameB nm
  · have hp : S.put nm b = (S, 6) := by unfold BSt.put; rw [hB]; rfl
    have e0 : namedI nm = 6 := by unfold namedI; rw [hB]; rfl
    rw [e0] at hN
    rw [hp]
    have XN := Aside0.mk hN
    clear hN hB hp e0
    go_enter Tryd.func12, Tryd.ntmps12
    go_wp2_with (first | (go_at_call 23; refine XN.out.mono ?_; rintro e w' ⟨rfl, hw⟩) | fail)
    go_ret
    exact ⟨rfl, F, (Xh.out.mono (Nat.le_succ _)).below hw, Went.of hw⟩
  have e0 : namedI nm = 0 := by unfold namedI; rw [hB]; rfl
  rw [e0] at hN
  have XB := Aside0.mk hB
  have XN := Aside0.mk hN
  clear hN hB e0
  by_cases hl : 60000 < b.length
  · have hp : S.put nm b = (S, 14) := by unfold BSt.put; rw [XB.out, if_pos rfl, if_pos hl]
    rw [hp]
    have d1 : decide ((60000 : Int) < (b.length : Int)) = true := decide_eq_true (by omega)
    clear hp hl
    go_enter Tryd.func12, Tryd.ntmps12
    go_wp2_with (first | (go_at_call 23; refine XN.out.mono ?_; rintro e w' ⟨rfl, hw⟩) | fail)
    go_ret
    exact ⟨rfl, F, (Xh.out.mono (Nat.le_succ _)).below hw, Went.of hw⟩
  have d1 : decide ((60000 : Int) < (b.length : Int)) = false := decide_eq_false (by omega)
  have hp : S.put nm b = (if S.o = 1 then S.next else S.next.set nm (some b), toldI S.o) := by unfold BSt.put; rw [XB.out, if_pos rfl, if_neg hl]
  rw [hp]
  have Xl := Aside0.mk hl
  clear hl hp
  obtain ⟨o, ho⟩ : ∃ o, o = S.o := ⟨_, rfl⟩
  rw [← ho]
  have Xo := Aside0.mk ho
  obtain ⟨ti, hti⟩ : ∃ ti, ti = toldI o := ⟨_, rfl⟩
  rw [← hti]
  have Xti := Aside0.mk hti
  have hT : ∀ w, Calls Tryd.prog 26 #[.int .i64 o] w fun e W' => e = .returned (.int .i64 ti) ∧ W' = w := fun w => by rw [hti]; exact told_calls o w
  have XT := Aside0.mk hT
  clear hti hT
  obtain ⟨S1, hS1⟩ : ∃ S1, S1 = S.next := ⟨_, rfl⟩
  rw [← hS1]
  have hK : ∀ w1, Below W.heap.size W w1 → Calls Tryd.prog 24 #[.pointer (some ⟨g, 0, none⟩)] w1 fun e W' => e = .returned (.int .i64 o) ∧ BAt W' F g n S1 ∧ Went F F W W' := fun w1 hw1 => by
    rw [hS1, ho]
    refine (take_calls (Xh.out.below hw1)).mono ?_
    rintro e w2 ⟨rfl, hb2, hg2⟩
    obtain ⟨bm, vo, hb, hFg, _⟩ := Xh.out
    exact ⟨rfl, hb2, (Went.of hw1).trans ⟨Chg.grown hg2 hFg, fun _ h => .inl h⟩⟩
  have XK := Aside0.mk hK
  clear hK hS1
  by_cases h1 : o = 1
  · rw [if_pos h1]
    have hb1 : (o != 1) = false := by simp [h1]
    clear h1 ho
    go_enter Tryd.func12, Tryd.ntmps12
    go_wp2_with (first | (go_at_call 23; refine XN.out.mono ?_; rintro e w' ⟨rfl, hw⟩; have Xw := Aside0.mk hw; clear hw) | (go_at_call 24; refine (XK.out _ Xw.out).mono ?_; rintro e w2 ⟨rfl, hb2⟩; have Xb2 := Aside0.mk hb2; clear hb2) | (go_at_call 26; refine (XT.out _).mono ?_; rintro e w3 ⟨rfl, rfl⟩) | fail)
    go_ret
    exact ⟨rfl, F, Xb2.out.1.mono (Nat.le_succ _), Xb2.out.2⟩
  · rw [if_neg h1]
    have hb1 : (o != 1) = true := bne_iff_ne.2 h1
    clear h1 ho
    go_enter Tryd.func12, Tryd.ntmps12
    go_wp2_with (first | (go_at_call 23; refine XN.out.mono ?_; rintro e w' ⟨rfl, hw⟩; have Xw := Aside0.mk hw; clear hw) | (go_at_call 24; refine (XK.out _ Xw.out).mono ?_; rintro e w2 ⟨rfl, hb2⟩; have Xb2 := Aside0.mk hb2; clear hb2) | fail)
    obtain ⟨bm, vo, hb, hFg, ⟨D, hown, hbF, hk⟩, hO⟩ := Xb2.out.1
    have c0 : w2.cell? ⟨g, 0, none⟩ = some (.map (some bm)) := blk_cell hb 0
    have Xhb := Aside0.mk hb
    have Xown := Aside0.mk hown
    have Xk := Aside0.mk hk
    have XO := Aside0.mk hO
    have XbF := Aside0.mk hbF
    have XgF := Aside0.mk hFg
    clear hb hown hk hO hbF hFg

    have hcl : ∀ w, w.heap = w2.heap → Below w2.heap.size w2 w → Calls Tryd.prog 25 #[.slice A b.length c] w fun e W' => ∃ v, e = .returned v ∧ BytesAt W' (fun k => w2.heap.size ≤ k ∧ k < W'.heap.size) v b ∧ Below w2.heap.size w2 W' ∧ W'.cell? ⟨g, 0, none⟩ = some (.map (some bm)) ∧
        ∃ W4, (Instr.mapUpdate 53 (.map (some bm)) (.string nm) v).run Tryd.prog W' = .ok () W4 ∧ W4.ownsMap Tryd.prog 9 tokR bm (n + 1) (D.put (litS nm) (.held v)) ∧ W'.mapTurned W4 bm := fun w hh hw => by
      have hCC : (Kd.int .u8).C w A b.length b := Kd.C_below (C_chg Xb2.out.2.chg XA.out Xr.out) hw
      refine (clone_calls w A c b hCC (by have := Xl.out; omega)).mono ?_
      rintro e w3 ⟨v, rfl, hv, hB3⟩
      rw [hh] at hv
      have hB : Below w2.heap.size w2 w3 := hw.trans (hB3.mono hw.size)
      obtain ⟨w4, h1, h2, h3⟩ := (Xown.out.kept (grown_of_below hB) (by simp)).store law9 Tryd.underlying53 (by have := Xn.out; simp only [maxLen]; omega) (key := .string nm) (key9 (by have := nameB_size XB.out; simp only [maxLen]; omega)) (show tokR v = some (.held v, []) from rfl)
      exact ⟨v, rfl, hv, hB, (hB.cell (p := ⟨g, 0, none⟩) (blk_lt Xhb.out)).trans c0, w4, h1, h2, h3⟩
    have Xcl := Aside0.mk hcl
    clear hcl
    go_region_with (first | (go_at_call 25; refine (Xcl.out _ (by rfl) (by first | exact Below.refl _ _ | exact Below.drew (Below.refl _ _))).mono ?_; rintro e w3 ⟨v, rfl, hv, hB3, c03, w4, hrun4, hown4, hturn4⟩; have Xv := Aside0.mk hv; have XB3 := Aside0.mk hB3; have Xown4 := Aside0.mk hown4; have Xt4 := Aside0.mk hturn4; clear hv hB3 hown4 hturn4) | fail)
    all_goals
      obtain ⟨F', hE1, hE2⟩ := put_end Xhb.out Xown.out Xk.out XO.out XbF.out XgF.out XB3.out Xv.out Xown4.out Xt4.out
      have XE1 := Aside0.mk hE1
      have XE2 := Aside0.mk hE2
      clear hE1 hE2
      go_wp2_with (first | (go_at_call 26; refine (XT.out _).mono ?_; rintro e w5 ⟨rfl, rfl⟩) | fail)
      go_ret
      exact ⟨rfl, F', XE1.out, Xb2.out.2.trans XE2.out⟩
end
end Go.Proofs.YtcallfgihohldaaDoor.PA
namespace Go.Proofs.YtcallfgihohldaaDoor.PA
section

open Go.RowKit Go.Proofs.YtcallfgihohldaaDoorW.PrintWords Go.Proofs.YtcallfgihohldaaDoorW.PrintLast Go.Proofs.YtcallfgihohldaaDoorW.PrintMore
attribute [local go_sem] max2_int min2_int max_two min_two max_three min_three max_four min_four
set_option linter.unusedVariables false
set_option linter.unusedSimpArgs false
theorem BytesAt.reads {W : World} {F : Nat → Prop} {v : Value} {b : List Int} (h : BytesAt W F v b) : ∃ A c, v = .slice A b.length c ∧ (Kd.int .u8).C W A b.length b ∧ b.length ≤ 60000 := by
  rcases h with ⟨A, rfl, rfl⟩ | ⟨q, c, cs, h1, h2, h3, h4, h5⟩
  · exact ⟨A, 0, rfl, ⟨rfl, by simp, fun h => absurd h (by simp)⟩, by simp⟩
  · refine ⟨_, c, h1, ⟨rfl, by omega, fun _ => ⟨_, rfl, fun j p hj => ⟨[.int .u8 p], rfl, rfl, fun q u hu => ?_⟩⟩⟩, h2.2⟩
    obtain ⟨hl, rfl⟩ := List.getElem?_eq_some_iff.1 hj
    cases q with
    | zero =>
      simp only [List.getElem?_cons_zero, Option.some.injEq] at hu
      subst hu
      rw [add_plain, blk_cell h4, show j * (Kd.int .u8).sz + 0 = j from Nat.mul_one j]
      exact h5 j hl
    | succ q => simp at hu
theorem clone_at {W : World} {F : Nat → Prop} {v : Value} {b : List Int} (h : BytesAt W F v b) : Calls Tryd.prog 25 #[v] W fun e W' => ∃ v, e = .returned v ∧ BytesAt W' (fun k => W.heap.size ≤ k ∧ k < W'.heap.size) v b ∧ Below W.heap.size W W' := by
  obtain ⟨A, c, rfl, hr, hl⟩ := h.reads
  exact clone_calls W A c b hr hl
theorem BytesAt.none (W : World) (F : Nat → Prop) : BytesAt W F (.slice none 0 0) [] := .inl ⟨Option.none, rfl, rfl⟩
set_option maxHeartbeats 2000000 in
set_option maxRecDepth 100000 in
theorem get_calls {W : World} {F : Nat → Prop} {g n : Nat} {S : BSt} (h : BAt W F g n S) (hF : ∀ k, F k → k < W.heap.size) (nm : ByteArray) :
    Calls Tryd.prog 13 #[.pointer (some ⟨g, 0, none⟩), .string nm] W fun e W' => ∃ v, e = .returned (.tuple #[v, .int .i64 (S.get nm).2.2]) ∧ BytesAt W' (fun k => W.heap.size ≤ k ∧ k < W'.heap.size) v (S.get nm).2.1 ∧ BAt W' F g n (S.get nm).1 ∧ Went F F W W' := by
  have Xh := Aside0.mk h
  have XF := Aside0.mk hF
  clear h hF
  have hN := named_calls ⟨g, 0, none⟩ nm W
  cases hB : nameB nm
  · have hp : S.get nm = (S, [], 6) := by unfold BSt.get; rw [hB]; rfl
    have e0 : namedI nm = 6 := by unfold namedI; rw [hB]; rfl
    rw [e0] at hN
    rw [hp]
    have XN := Aside0.mk hN
    clear hN hB hp e0
    go_enter Tryd.func13, Tryd.ntmps13
    go_wp2_with (first | (go_at_call 23; refine XN.out.mono ?_; rintro e w' ⟨rfl, hw⟩) | fail)
    go_ret2
    exact ⟨_, rfl, BytesAt.none _ _, Xh.out.below hw, Went.of hw⟩
  have e0 : namedI nm = 0 := by unfold namedI; rw [hB]; rfl
  rw [e0] at hN
  have XB := Aside0.mk hB
  have XN := Aside0.mk hN
  clear hN hB e0
  obtain ⟨o, ho⟩ : ∃ o, o = S.o := ⟨_, rfl⟩
  have Xo := Aside0.mk ho
  obtain ⟨S1, hS1⟩ : ∃ S1, S1 = S.next := ⟨_, rfl⟩
  have XS := Aside0.mk hS1
  have hK : ∀ w1, Below W.heap.size W w1 → Calls Tryd.prog 24 #[.pointer (some ⟨g, 0, none⟩)] w1 fun e W' => e = .returned (.int .i64 o) ∧ BAt W' F g n S1 ∧ Went F F W W' := fun w1 hw1 => by
    rw [hS1, ho]
    refine (take_calls (Xh.out.below hw1)).mono ?_
    rintro e w2 ⟨rfl, hb2, hg2⟩
    obtain ⟨bm, vo, hb, hFg, _⟩ := Xh.out
    exact ⟨rfl, hb2, (Went.of hw1).trans ⟨Chg.grown hg2 hFg, fun _ h => .inl h⟩⟩
  have XK := Aside0.mk hK
  clear hK hS1
  by_cases h1 : o = 0
  · have hm : S1.m nm = S.m nm := by rw [XS.out]; rfl
    have h1' : ¬ S.o ≠ 0 := by rw [← ho]; exact fun h => h h1
    have hz := Tryd.zeroValue30
    have hb1 : (o != 0) = false := by simp [h1]
    cases hv : S.m nm with
    | none =>
      have hp : S.get nm = (S1, [], 7) := by unfold BSt.get; rw [XB.out, if_pos rfl, if_neg h1', hv, XS.out]
      rw [hp]
      rw [hv] at hm
      have Xm := Aside0.mk hm
      clear hm hv hp h1 h1' ho
      go_enter Tryd.func13, Tryd.ntmps13
      go_wp2_with (first | (go_at_call 23; refine XN.out.mono ?_; rintro e w' ⟨rfl, hw⟩; have Xw := Aside0.mk hw; clear hw) | (go_at_call 24; refine (XK.out _ Xw.out).mono ?_; rintro e w2 ⟨rfl, hb2, hW2⟩; have XW := Aside0.mk hW2; have Xb2 := Aside0.mk hb2; obtain ⟨bm, vo, hb, hFg, ⟨D, hown, hbF, hk⟩, hO⟩ := hb2; have c0 : w2.cell? ⟨g, 0, none⟩ = some (.map (some bm)) := blk_cell hb 0; have Xhb := Aside0.mk hb; have Xown := Aside0.mk hown; have Xk := Aside0.mk hk; have XO := Aside0.mk hO; have XbF := Aside0.mk hbF; have XgF := Aside0.mk hFg; clear hb hown hk hO hbF hFg hW2; have hhas : Go.Maps.has D (litS nm) = false := by { have := (Xk.out nm (by have := nameB_size XB.out; simp only [maxLen]; omega)).1; rw [Xm.out] at this; exact this }) | (at_lookup; refine wpList_lookup_own_ok _ rfl _ _ 53 rfl 9 30 law9 Tryd.underlying53 tokR (hz _) (.held (.slice none 0 0)) [] rfl bm n D rfl Xown.out _ _ rfl (key9 (by have := nameB_size XB.out; simp only [maxLen]; omega)) ?_; intro v ps hv) | fail)
      go_ret2
      exact ⟨_, rfl, BytesAt.none _ _, Xb2.out, XW.out⟩
    | some b =>
      have hp : S.get nm = (S1, b, 0) := by unfold BSt.get; rw [XB.out, if_pos rfl, if_neg h1', hv, XS.out]
      rw [hp]
      rw [hv] at hm
      have Xm := Aside0.mk hm
      clear hm hv hp h1 h1' ho
      go_enter Tryd.func13, Tryd.ntmps13
      go_wp2_with (first | (go_at_call 23; refine XN.out.mono ?_; rintro e w' ⟨rfl, hw⟩; have Xw := Aside0.mk hw; clear hw) | (go_at_call 24; refine (XK.out _ Xw.out).mono ?_; rintro e w2 ⟨rfl, hb2, hW2⟩; have XW := Aside0.mk hW2; have Xb2 := Aside0.mk hb2; obtain ⟨bm, vo, hb, hFg, ⟨D, hown, hbF, hk⟩, hO⟩ := hb2; have c0 : w2.cell? ⟨g, 0, none⟩ = some (.map (some bm)) := blk_cell hb 0; have Xhb := Aside0.mk hb; have Xown := Aside0.mk hown; have Xk := Aside0.mk hk; have XO := Aside0.mk hO; have XbF := Aside0.mk hbF; have XgF := Aside0.mk hFg; clear hb hown hk hO hbF hFg hW2; have hhas : Go.Maps.has D (litS nm) = true := by { have := (Xk.out nm (by have := nameB_size XB.out; simp only [maxLen]; omega)).1; rw [Xm.out] at this; exact this }; obtain ⟨v0, hat, hv0⟩ := (Xk.out nm (by have := nameB_size XB.out; simp only [maxLen]; omega)).2 b Xm.out; have Xat := Aside0.mk hat; have Xv0 := Aside0.mk hv0; clear hat hv0) | (at_lookup; refine wpList_lookup_own_ok _ rfl _ _ 53 rfl 9 30 law9 Tryd.underlying53 tokR (hz _) (.held (.slice none 0 0)) [] rfl bm n D rfl Xown.out _ _ rfl (key9 (by have := nameB_size XB.out; simp only [maxLen]; omega)) ?_; intro v ps hv; obtain rfl : v = v0 := (by have h2 := (Option.some.inj hv); have h3 := congrArg Prod.fst h2; rw [Xat.out] at h3; injection h3); clear hv) | (go_at_call 25; refine (clone_at Xv0.out).mono ?_; rintro e w3 ⟨v3, rfl, hv3, hB3⟩; have Xv3 := Aside0.mk hv3; have XB3 := Aside0.mk hB3; clear hv3 hB3) | fail)
      go_ret2
      exact ⟨_, rfl, Xv3.out.move (fun _ _ _ _ => rfl) (fun k h _ => ⟨Nat.le_trans XW.out.chg.size h.1, h.2⟩), Xb2.out.below XB3.out, XW.out.trans (Went.of XB3.out)⟩
  · have hp : S.get nm = (S1, [], 15) := by unfold BSt.get; rw [XB.out, if_pos rfl, if_pos (by rw [← ho]; exact h1), XS.out]
    rw [hp]
    have hb1 : (o != 0) = true := bne_iff_ne.2 h1
    clear h1 ho hp
    go_enter Tryd.func13, Tryd.ntmps13
    go_wp2_with (first | (go_at_call 23; refine XN.out.mono ?_; rintro e w' ⟨rfl, hw⟩; have Xw := Aside0.mk hw; clear hw) | (go_at_call 24; refine (XK.out _ Xw.out).mono ?_; rintro e w2 ⟨rfl, hb2, hW2⟩; have XW := Aside0.mk hW2; have Xb2 := Aside0.mk hb2; obtain ⟨bm, vo, hb, hFg, ⟨D, hown, hbF, hk⟩, hO⟩ := hb2; have c0 : w2.cell? ⟨g, 0, none⟩ = some (.map (some bm)) := blk_cell hb 0; have Xhb := Aside0.mk hb; have Xown := Aside0.mk hown; have Xk := Aside0.mk hk; have XO := Aside0.mk hO; have XbF := Aside0.mk hbF; have XgF := Aside0.mk hFg; clear hb hown hk hO hbF hFg hW2) | fail)
    go_ret2
    exact ⟨_, rfl, BytesAt.none _ _, Xb2.out, XW.out⟩
end
end Go.Proofs.YtcallfgihohldaaDoor.PA
namespace Go.Proofs.YtcallfgihohldaaDoor.PA
section

open Go.RowKit Go.Proofs.YtcallfgihohldaaDoorW.PrintWords Go.Proofs.YtcallfgihohldaaDoorW.PrintLast Go.Proofs.YtcallfgihohldaaDoorW.PrintMore
attribute [local go_sem] max2_int min2_int max_two min_two max_three min_three max_four min_four
set_option linter.unusedVariables false
set_option linter.unusedSimpArgs false
theorem del_end {w2 w4 : World} {F : Nat → Prop} {g n bm : Nat} {S1 : BSt} {nm : ByteArray} {vo : Value} {D : DataW Value} (hb : w2.heap[g]? = some (.cells #[.map (some bm), .int .i64 S1.ver, .string S1.root, vo, .int .i64 S1.calls] 55 (0, 0)))
    (hown : w2.ownsMap Tryd.prog 9 tokR bm n D) (hk : MapK w2 F D S1.m) (hO : OutAt w2 F vo S1.outs) (hbF : F bm) (hgF : F g) 
    (hown4 : w4.ownsMap Tryd.prog 9 tokR bm n (D.del (litS nm))) (ht : w2.mapTurned w4 bm) : BAt w4 F g n (S1.set nm none) ∧ Went F F w2 w4 := by
  have hg := ht.grown
  obtain ⟨es, clock, hbm, _⟩ := hown
  have hne : ∀ (k : Nat) (cs : Array Value) (t : TypeId), w2.heap[k]? = some (.cells cs t (0, 0)) → k ≠ bm := fun k cs t h e => by
    subst e
    rw [hbm] at h
    cases h
  have hcell : ∀ (k : Nat) (cs : Array Value) (t : TypeId), w2.heap[k]? = some (.cells cs t (0, 0)) → w4.heap[k]? = w2.heap[k]? := fun k cs t h => hg.block k (blk_lt h) (fun e => hne k cs t h (Option.some.inj e))
  exact ⟨⟨bm, vo, (hcell _ _ _ hb).trans hb, hgF, ⟨_, hown4, hbF, hk.del nm (fun v b h => h.move (fun k cs _ h => hcell k cs 5 h) (fun k h _ => h))⟩, hO.move (fun k cs _ h => hcell k cs 3 h) (fun k h _ => h)⟩, ⟨Chg.grown hg hbF, fun k h => .inl h⟩⟩
set_option maxHeartbeats 2000000 in
set_option maxRecDepth 100000 in
theorem del_calls {W : World} {F : Nat → Prop} {g n : Nat} {S : BSt} (h : BAt W F g n S) (hF : ∀ k, F k → k < W.heap.size) (nm : ByteArray) :
    Calls Tryd.prog 20 #[.pointer (some ⟨g, 0, none⟩), .string nm] W fun e W' => e = .returned (.int .i64 (S.del nm).2) ∧ BAt W' F g n (S.del nm).1 ∧ Went F F W W' := by
  have Xh := Aside0.mk h
  have XF := Aside0.mk hF
  clear h hF
  have hN := named_calls ⟨g, 0, none⟩ nm W
  cases hB : nameB nm
  · have hp : S.del nm = (S, 6) := by unfold BSt.del; rw [hB]; rfl
    have e0 : namedI nm = 6 := by unfold namedI; rw [hB]; rfl
    rw [e0] at hN
    rw [hp]
    have XN := Aside0.mk hN
    clear hN hB hp e0
    go_enter Tryd.func20, Tryd.ntmps20
    go_wp2_with (first | (go_at_call 23; refine XN.out.mono ?_; rintro e w' ⟨rfl, hw⟩) | fail)
    go_ret
    exact ⟨rfl, Xh.out.below hw, Went.of hw⟩
  have e0 : namedI nm = 0 := by unfold namedI; rw [hB]; rfl
  rw [e0] at hN
  have XB := Aside0.mk hB
  have XN := Aside0.mk hN
  clear hN hB e0
  obtain ⟨o, ho⟩ : ∃ o, o = S.o := ⟨_, rfl⟩
  have Xo := Aside0.mk ho
  obtain ⟨S1, hS1⟩ : ∃ S1, S1 = S.next := ⟨_, rfl⟩
  have XS := Aside0.mk hS1
  have hK : ∀ w1, Below W.heap.size W w1 → Calls Tryd.prog 24 #[.pointer (some ⟨g, 0, none⟩)] w1 fun e W' => e = .returned (.int .i64 o) ∧ BAt W' F g n S1 ∧ Went F F W W' := fun w1 hw1 => by
    rw [hS1, ho]
    refine (take_calls (Xh.out.below hw1)).mono ?_
    rintro e w2 ⟨rfl, hb2, hg2⟩
    obtain ⟨bm, vo, hb, hFg, _⟩ := Xh.out
    exact ⟨rfl, hb2, (Went.of hw1).trans ⟨Chg.grown hg2 hFg, fun _ h => .inl h⟩⟩
  have XK := Aside0.mk hK
  clear hK hS1
  have hT : ∀ w, Calls Tryd.prog 26 #[.int .i64 o] w fun e W' => e = .returned (.int .i64 (toldI o)) ∧ W' = w := fun w => told_calls o w
  have XT := Aside0.mk hT
  clear hT
  have hp : S.del nm = (if S.o = 1 then S.next else S.next.set nm none, toldI S.o) := by unfold BSt.del; rw [XB.out, if_pos rfl]
  rw [hp, ← ho, ← XS.out]
  clear hp
  by_cases h1 : o = 1
  · rw [if_pos h1]
    have hb1 : (o != 1) = false := by simp [h1]
    clear h1 ho
    go_enter Tryd.func20, Tryd.ntmps20
    go_wp2_with (first | (go_at_call 23; refine XN.out.mono ?_; rintro e w' ⟨rfl, hw⟩; have Xw := Aside0.mk hw; clear hw) | (go_at_call 24; refine (XK.out _ Xw.out).mono ?_; rintro e w2 ⟨rfl, hb2, hW2⟩; have XW := Aside0.mk hW2; have Xb2 := Aside0.mk hb2; obtain ⟨bm, vo, hb, hFg, ⟨D, hown, hbF, hk⟩, hO⟩ := hb2; have c0 : w2.cell? ⟨g, 0, none⟩ = some (.map (some bm)) := blk_cell hb 0; have Xhb := Aside0.mk hb; have Xown := Aside0.mk hown; have Xk := Aside0.mk hk; have XO := Aside0.mk hO; have XbF := Aside0.mk hbF; have XgF := Aside0.mk hFg; clear hb hown hk hO hbF hFg hW2) | (go_at_call 26; refine (XT.out _).mono ?_; rintro e w3 ⟨rfl, rfl⟩) | fail)
    go_ret
    exact ⟨rfl, Xb2.out, XW.out⟩
  · rw [if_neg h1]
    have hb1 : (o != 1) = true := bne_iff_ne.2 h1
    clear h1 ho
    go_enter Tryd.func20, Tryd.ntmps20
    go_wp2_with (first | (go_at_call 23; refine XN.out.mono ?_; rintro e w' ⟨rfl, hw⟩; have Xw := Aside0.mk hw; clear hw) | (go_at_call 24; refine (XK.out _ Xw.out).mono ?_; rintro e w2 ⟨rfl, hb2, hW2⟩; have XW := Aside0.mk hW2; have Xb2 := Aside0.mk hb2; obtain ⟨bm, vo, hb, hFg, ⟨D, hown, hbF, hk⟩, hO⟩ := hb2; have c0 : w2.cell? ⟨g, 0, none⟩ = some (.map (some bm)) := blk_cell hb 0; have Xhb := Aside0.mk hb; have Xown := Aside0.mk hown; have Xk := Aside0.mk hk; have XO := Aside0.mk hO; have XbF := Aside0.mk hbF; have XgF := Aside0.mk hFg; clear hb hown hk hO hbF hFg hW2) | (at_delete; refine wpList_delete_own _ rfl _ _ 53 9 rfl 30 law9 Tryd.underlying53 tokR bm n D rfl Xown.out _ _ rfl (key9 (by have := nameB_size XB.out; simp only [maxLen]; omega)) ?_; intro w4 hown4 hturn4; have X4 := Aside0.mk hown4; have XT4 := Aside0.mk hturn4; clear hown4 hturn4) | (go_at_call 26; refine (XT.out _).mono ?_; rintro e w3 ⟨rfl, rfl⟩) | fail)
    go_ret
    obtain ⟨h5, h6⟩ := del_end Xhb.out Xown.out Xk.out XO.out XbF.out XgF.out X4.out XT4.out
    exact ⟨rfl, h5, XW.out.trans h6⟩
end
end Go.Proofs.YtcallfgihohldaaDoor.PA
namespace Go.Proofs.YtcallfgihohldaaDoor.PA
section

open Go.RowKit Go.Proofs.YtcallfgihohldaaDoorW.PrintWords Go.Proofs.YtcallfgihohldaaDoorW.PrintLast Go.Proofs.YtcallfgihohldaaDoorW.PrintMore
attribute [local go_sem] max2_int min2_int max_two min_two max_three min_three max_four min_four
set_option linter.unusedVariables false
set_option linter.unusedSimpArgs false
structure SAt (W : World) (B : Nat) (F : Nat → Prop) (g n : Nat) (S : BSt) : Prop where
  at_ : BAt W F g n S
  ge : ∀ k, F k → B ≤ k
  lt : ∀ k, F k → k < W.heap.size
  hB : B ≤ W.heap.size
theorem SAt.went {W W' : World} {B : Nat} {F F' : Nat → Prop} {g n n' : Nat} {S S' : BSt} (h : SAt W B F g n S) (hw : Went F F' W W') (hb : BAt W' F' g n' S') : SAt W' B F' g n' S' :=
  ⟨hb, hw.ge h.ge h.hB, hw.lt h.lt, Nat.le_trans h.hB hw.chg.size⟩
theorem SAt.below {W W' : World} {B : Nat} {F : Nat → Prop} {g n : Nat} {S : BSt} (h : SAt W B F g n S) (hb : Below W.heap.size W W') : SAt W' B F g n S := h.went (Went.of hb) (h.at_.below hb)
theorem SAt.drewN {W : World} {B : Nat} {F : Nat → Prop} {g n : Nat} {S : BSt} (h : SAt W B F g n S) (m : Nat) : SAt (W.drewN m) B F g n S := h.below (pw_below_drewN (Below.refl _ _) m)
theorem SAt.alloc {W : World} {B : Nat} {F : Nat → Prop} {g n : Nat} {S : BSt} (h : SAt W B F g n S) (o : Obj) : SAt (W.alloc o) B F g n S := h.below (below_alloc (Below.refl _ _) o)
theorem Went.under {F F' : Nat → Prop} {W W' : World} {B : Nat} (h : Went F F' W W') (hF : ∀ k, F k → B ≤ k) (hB : B ≤ W.heap.size) : Below B W W' := h.chg.below hF hB
theorem SAt.fresh {W : World} {B : Nat} {F : Nat → Prop} {g n : Nat} {S : BSt} (h : SAt W B F g n S) : ∀ ad : Addr, some ⟨W.heap.size, 0, none⟩ = some ad → ¬ F ad.block := fun ad e hF => by
  injection e with e
  subst e
  exact Nat.lt_irrefl _ (h.lt _ hF)
theorem SAt.then {w W W' : World} {B : Nat} {F F' : Nat → Prop} {g n : Nat} {S : BSt} (h : SAt W B F g n S) (hb : Below B w W) (hw : Went F F' W W') : Below B w W' := hb.trans (hw.under h.ge h.hB)
theorem SAt.more {w W W' : World} {B : Nat} {F : Nat → Prop} {g n : Nat} {S : BSt} (h : SAt W B F g n S) (hb : Below B w W) (hw : Below W.heap.size W W') : Below B w W' := hb.trans (hw.mono h.hB)
theorem SAt.bal {w W : World} {B : Nat} {F : Nat → Prop} {g n : Nat} {S : BSt} (h : SAt W B F g n S) (hb : Below B w W) (o : Obj) : Below B w (W.alloc o) := h.more hb (below_alloc (Below.refl _ _) o)
theorem sat_new (w : World) : Calls Tryd.prog 10 #[] w fun e W' => ∃ g F, e = .returned (.pointer (some ⟨g, 0, none⟩)) ∧ SAt W' w.heap.size F g 0 BSt.new ∧ Below w.heap.size w W' := by
  refine (new_calls w).mono ?_
  rintro e W' ⟨g, rfl, hb, hB⟩
  refine ⟨g, fun k => w.heap.size ≤ k ∧ k < W'.heap.size, rfl, ⟨hb.move (fun _ _ _ => rfl) (fun k h1 h2 => ⟨h1, h2⟩), fun k h => h.1, fun k h => h.2, hB.size⟩, hB⟩
theorem sat_calls {W : World} {B : Nat} {F : Nat → Prop} {g n : Nat} {S : BSt} (h : SAt W B F g n S) (c : Int) (hc : S.calls = c) : Calls Tryd.prog 17 #[.pointer (some ⟨g, 0, none⟩)] W fun e W' => e = .returned (.int .i64 c) ∧ W' = W := by
  subst hc
  exact calls_calls h.at_
theorem sat_script {W : World} {B : Nat} {F : Nat → Prop} {g n : Nat} {S : BSt} (h : SAt W B F g n S) (A : Option Addr) (k c : Nat) (l2 : List Int) (hk : k = l2.length) (hr : (Kd.int .i64).C W A l2.length l2) (hn : S.outs.length + l2.length ≤ 1000000) :
    Calls Tryd.prog 11 #[.pointer (some ⟨g, 0, none⟩), .slice A k c] W fun e W' => e = .returned (.tuple #[]) ∧ ∃ F', SAt W' B F' g n (S.script l2) ∧ Went F F' W W' := by
  subst hk
  refine (script_calls h.at_ h.lt A c l2 hr hn).mono ?_
  rintro e W' ⟨rfl, F', hb, hw⟩
  exact ⟨rfl, F', h.went hw hb, hw⟩
theorem sat_put {W : World} {B : Nat} {F : Nat → Prop} {g n : Nat} {S : BSt} (h : SAt W B F g n S) (hn : n < 1000000) (nm : ByteArray) (A : Option Addr) (k c : Nat) (b : List Int) (hk : k = b.length) (hA : ∀ ad, A = some ad → ¬ F ad.block) (hr : (Kd.int .u8).C W A b.length b) (r : BSt × Int) (hp : S.put nm b = r) :
    Calls Tryd.prog 12 #[.pointer (some ⟨g, 0, none⟩), .string nm, .slice A k c] W fun e W' => e = .returned (.int .i64 r.2) ∧ ∃ F', SAt W' B F' g (n + 1) r.1 ∧ Went F F' W W' := by
  subst hk hp
  refine (put_calls h.at_ h.lt hn nm A c b hA hr).mono ?_
  rintro e W' ⟨rfl, F', hb, hw⟩
  exact ⟨rfl, F', h.went hw hb, hw⟩
theorem sat_get {W : World} {B : Nat} {F : Nat → Prop} {g n : Nat} {S : BSt} (h : SAt W B F g n S) (nm : ByteArray) (r : BSt × List Int × Int) (hp : S.get nm = r) :
    Calls Tryd.prog 13 #[.pointer (some ⟨g, 0, none⟩), .string nm] W fun e W' => ∃ v, e = .returned (.tuple #[v, .int .i64 r.2.2]) ∧ BytesAt W' (fun k => W.heap.size ≤ k ∧ k < W'.heap.size) v r.2.1 ∧ SAt W' B F g n r.1 ∧ Went F F W W' := by
  subst hp
  refine (get_calls h.at_ h.lt nm).mono ?_
  rintro e W' ⟨v, rfl, hv, hb, hw⟩
  exact ⟨v, rfl, hv, h.went hw hb, hw⟩
theorem sat_del {W : World} {B : Nat} {F : Nat → Prop} {g n : Nat} {S : BSt} (h : SAt W B F g n S) (nm : ByteArray) (r : BSt × Int) (hp : S.del nm = r) :
    Calls Tryd.prog 20 #[.pointer (some ⟨g, 0, none⟩), .string nm] W fun e W' => e = .returned (.int .i64 r.2) ∧ SAt W' B F g n r.1 ∧ Went F F W W' := by
  subst hp
  refine (del_calls h.at_ h.lt nm).mono ?_
  rintro e W' ⟨rfl, hb, hw⟩
  exact ⟨rfl, h.went hw hb, hw⟩
/-- The caller's row from a literal. -/
theorem C_row (k : IntKind) (W : World) (t : TypeId) (fr : Nat × Nat) (l : List Int) (hl : l.length ≤ 9223372036854775807) : (Kd.int k).C (W.alloc (.cells (l.map (fun x => Value.int k x)).toArray t fr)) (some ⟨W.heap.size, 0, none⟩) l.length l := by
  refine ⟨rfl, hl, fun _ => ⟨_, rfl, fun j p hj => ⟨[.int k p], rfl, rfl, fun q u hu => ?_⟩⟩⟩
  obtain ⟨hl, rfl⟩ := List.getElem?_eq_some_iff.1 hj
  cases q with
  | zero =>
    simp only [List.getElem?_cons_zero, Option.some.injEq] at hu
    subst hu
    rw [add_plain, cell_of_row _ _ _ _ _ _ (heap_alloc_new W _), show j * (Kd.int k).sz + 0 = j from Nat.mul_one j]
    simp [hj]
  | succ q => simp at hu
def pickO (x : Int) : Int := (wrap64 (x.tmod 3 + 3)).tmod 3
theorem BSt.o_nil {S : BSt} (h : S.outs = []) : S.o = 0 := by unfold BSt.o; rw [h]
theorem BSt.o_cons {S : BSt} {x : Int} {l : List Int} (h : S.outs = x :: l) : S.o = pickO x := by unfold BSt.o; rw [h]; rfl
theorem pickO_eq (x : Int) : pickO x = (x.tmod 3 + 3) % 3 := by
  unfold pickO
  have h1 := Int.tmod_lt_of_pos x (show (0 : Int) < 3 by decide)
  have h2 : -3 < x.tmod 3 := Int.lt_tmod_of_pos x (by decide)
  have hw : wrap64 (x.tmod 3 + 3) = x.tmod 3 + 3 := by unfold wrap64; omega
  rw [hw, Int.tmod_eq_emod_of_nonneg (by omega)]
theorem pickO_2 : pickO 2 = 2 := by rw [pickO_eq]; decide
theorem BSt.put_val {S : BSt} {nm : ByteArray} {b : List Int} {o : Int} (hn : nameB nm = true) (hl : b.length ≤ 60000) (ho : S.o = o) : S.put nm b = (if o = 1 then S.next else S.next.set nm (some b), toldI o) := by
  unfold BSt.put
  rw [hn, if_pos rfl, if_neg (by omega), ho]
theorem BSt.get_val {S : BSt} {nm : ByteArray} (hn : nameB nm = true) (ho : S.o = 0) : S.get nm = match S.m nm with | none => (S.next, [], 7) | some b => (S.next, b, 0) := by
  unfold BSt.get
  cases S.m nm <;> simp [hn, ho]
theorem nameB_of {s : ByteArray} (h : (!(s.data.toList == []) && decide (s.size ≤ 40) && s.data.toList.all okC) = true) : nameB s = true := by
  unfold nameB
  rw [Lib.toList_data]
  exact h
theorem name_a : nameB ⟨#[97]⟩ = true := nameB_of (by decide)
end
end Go.Proofs.YtcallfgihohldaaDoor.PA
namespace Go.Proofs.YtcallfgihohldaaDoor.PA
section

open Go.RowKit Go.Proofs.YtcallfgihohldaaDoorW.PrintWords Go.Proofs.YtcallfgihohldaaDoorW.PrintLast Go.Proofs.YtcallfgihohldaaDoorW.PrintMore
attribute [local go_sem] max2_int min2_int max_two min_two max_three min_three max_four min_four
set_option linter.unusedVariables false
set_option linter.unusedSimpArgs false
theorem known_vals : ∃ S1 S2 S3 : BSt, BSt.new.put ⟨#[97]⟩ [120] = (S1, 0) ∧ S1.outs = [] ∧ (S1.script [2]).put ⟨#[97]⟩ [121] = (S2, 15) ∧ S2.get ⟨#[97]⟩ = (S3, [121], 0) ∧ S3.calls = 3 := by
  have h1 := BSt.put_val (S := BSt.new) (b := [120]) name_a (by decide) (BSt.o_nil rfl)
  have h2 := BSt.put_val (S := (BSt.new.next.set ⟨#[97]⟩ (some [120])).script [2]) (b := [121]) (o := 2) name_a (by decide) ((BSt.o_cons (x := 2) (l := []) rfl).trans pickO_2)
  have h3 := BSt.get_val (S := ((BSt.new.next.set ⟨#[97]⟩ (some [120])).script [2]).next.set ⟨#[97]⟩ (some [121])) name_a (BSt.o_nil rfl)
  have h4 : (((BSt.new.next.set ⟨#[97]⟩ (some [120])).script [2]).next.set ⟨#[97]⟩ (some [121])).m ⟨#[97]⟩ = some [121] := by unfold BSt.set; simp
  rw [h4] at h3
  exact ⟨_, _, _, h1, rfl, h2, h3, by simp [BSt.next, BSt.set, BSt.script, BSt.new, wrap64]⟩
set_option maxHeartbeats 4000000 in
set_option maxRecDepth 100000 in
theorem known_calls (w : World) : Calls Tryd.prog 9 #[] w fun e w' => e = .returned (.bool true) ∧ Below w.heap.size w w' := by
  obtain ⟨S1, S2, S3, h1, h2, h3, h4, h5⟩ := known_vals
  have H1 := Aside0.mk h1
  have H2 := Aside0.mk h2
  have H3 := Aside0.mk h3
  have H4 := Aside0.mk h4
  have H5 := Aside0.mk h5
  clear h1 h2 h3 h4 h5
  have kc := fun (w : World) (C : Array Value) (n c : Nat) => Lib.run_convert_bytes_const (P := Tryd.prog) w 30 5 C n c Tryd.underlying30 Tryd.underlying5
  go_enter Tryd.func9, Tryd.ntmps9
  go_wp2_with fail
  refine (sat_new w).mono ?_
  rintro e wa ⟨g, F, rfl, hS, hB⟩
  have SA := Aside0.mk hS
  have BA := Aside0.mk hB
  clear hS hB
  go_wp2_with fail
  refine (sat_put (SA.out.alloc (.cells #[.int .u8 120] 5 (1, 2))) (by decide) _ _ _ _ [120] rfl SA.out.fresh (C_row .u8 wa 5 (1, 2) [120] (by decide)) _ H1.out).mono ?_
  rintro e wb ⟨rfl, F2, hS, hW⟩
  have SB := Aside0.mk hS
  have BB := Aside0.mk ((SA.out.alloc _).then (SA.out.bal BA.out _) hW)
  clear hS hW
  go_wp2_with fail
  refine (sat_script (SB.out.alloc (.cells #[.int .i64 2] 3)) _ _ _ [2] rfl (C_row .i64 wb 3 (0, 0) [2] (by decide)) (by rw [H2.out]; decide)).mono ?_
  rintro e wc ⟨rfl, F3, hS, hW⟩
  have SC := Aside0.mk hS
  have BC := Aside0.mk ((SB.out.alloc _).then (SB.out.bal BB.out _) hW)
  clear hS hW
  go_wp2_with fail
  refine (sat_put (SC.out.alloc (.cells #[.int .u8 121] 5 (1, 2))) (by decide) _ _ _ _ [121] rfl SC.out.fresh (C_row .u8 wc 5 (1, 2) [121] (by decide)) _ H3.out).mono ?_
  rintro e wd ⟨rfl, F4, hS, hW⟩
  have SD := Aside0.mk hS
  have BD := Aside0.mk ((SC.out.alloc _).then (SC.out.bal BC.out _) hW)
  clear hS hW
  go_wp2_with fail
  refine (sat_get SD.out _ _ H4.out).mono ?_
  rintro e we ⟨v, rfl, hv, hS, hW⟩
  have SE := Aside0.mk hS
  have BE := Aside0.mk (SD.out.then BD.out hW)
  obtain ⟨A, c, rfl, hr, _⟩ := hv.reads
  have hcv : (convert 30 9 (.slice A 1 c)).run Tryd.prog we = .ok (.string ⟨#[121]⟩) we := Kd.C_string (c := c) (P := Tryd.prog) (src := 30) (dst := 9) Tryd.underlying30 Tryd.underlying5 Tryd.underlying9 hr
  clear hS hW hv hr
  go_wp2_with fail
  refine (sat_calls SE.out 3 H5.out).mono ?_
  rintro e wf ⟨rfl, rfl⟩
  go_wp2_with fail
  go_ret
  exact ⟨rfl, BE.out⟩
end
end Go.Proofs.YtcallfgihohldaaDoor.PA
namespace Go.Proofs.YtcallfgihohldaaDoor.PA
section

open Go.RowKit Go.Proofs.YtcallfgihohldaaDoorW.PrintWords Go.Proofs.YtcallfgihohldaaDoorW.PrintLast Go.Proofs.YtcallfgihohldaaDoorW.PrintMore
attribute [local go_sem] max2_int min2_int max_two min_two max_three min_three max_four min_four
set_option linter.unusedVariables false
set_option linter.unusedSimpArgs false
theorem conv_bytes (W : World) (s : ByteArray) (hs : s.size ≤ 9223372036854775807) : ∃ c Wb, (convert 9 30 (.string s)).run Tryd.prog W = .ok (.slice (some ⟨W.heap.size, 0, none⟩) s.size c) Wb ∧ (Kd.int .u8).C Wb (some ⟨W.heap.size, 0, none⟩) (bytesOf s).length (bytesOf s) ∧ Below W.heap.size W Wb := by
  refine ⟨_, _, print_bytes (P := Tryd.prog) 9 30 5 Tryd.underlying9 Tryd.underlying30 Tryd.underlying5 s W, ?_, bytes_below (Below.refl _ _) (Nat.le_refl _) 5 s⟩
  rw [bytesOf_length]
  exact Kd.C_of_reads (enc := Value.int .u8) (d := (0 : Int)) (h1 := fun _ => rfl) (bytes_reads W 5 s hs)
theorem str_bytes (s : ByteArray) : strOfNums (bytesOf s) = s := by
  obtain ⟨⟨l⟩⟩ := s
  have h : (l.map fun b => UInt8.ofNat ((b.toNat : Int)).toNat) = l := by
    have : (fun b : UInt8 => UInt8.ofNat ((b.toNat : Int)).toNat) = id := by
      funext b
      rw [Int.toNat_natCast, UInt8.ofNat_toNat]
      rfl
    rw [this, List.map_id]
  simp only [strOfNums, bytesOf, List.map_map]
  congr 1
  exact congrArg List.toArray h
def MayAt (W : World) (F : Nat → Prop) (v : Value) (M : List ByteArray) : Prop :=
  (v = .slice none 0 0 ∧ M = []) ∨ ∃ q c cs, v = .slice (some ⟨q, 0, none⟩) M.length c ∧ M.length ≤ c ∧ ¬ F q ∧ W.heap[q]? = some (.cells cs 9 (0, 0)) ∧ ∀ i (h : i < M.length), cs[i]? = some (.string M[i])
theorem MayAt.went {W W' : World} {F F' : Nat → Prop} {v : Value} {M : List ByteArray} (h : MayAt W F v M) (hw : Went F F' W W') : MayAt W' F' v M := by
  rcases h with h | ⟨q, c, cs, h1, h2, h3, h4, h5⟩
  · exact .inl h
  · exact .inr ⟨q, c, cs, h1, h2, hw.out (blk_lt h4) h3, (hw.chg.block q (blk_lt h4) h3).trans h4, h5⟩
theorem MayAt.slice {W : World} {F : Nat → Prop} {v : Value} {M : List ByteArray} (h : MayAt W F v M) : ∃ A c, v = .slice A M.length c ∧ (0 < M.length → ∃ ad, A = some ad ∧ ∀ j u, (M.map Value.string)[j]? = some u → W.cell? (ad.add j) = some u) := by
  rcases h with ⟨rfl, rfl⟩ | ⟨q, c, cs, rfl, h2, h3, h4, h5⟩
  · exact ⟨none, 0, rfl, fun h => absurd h (by simp)⟩
  · refine ⟨_, c, rfl, fun _ => ⟨_, rfl, fun j u hu => ?_⟩⟩
    rw [List.getElem?_map, Option.map_eq_some_iff] at hu
    obtain ⟨x, hx, rfl⟩ := hu
    obtain ⟨hl, rfl⟩ := List.getElem?_eq_some_iff.1 hx
    rw [add_plain, blk_cell h4]
    exact h5 j hl
theorem MayAt.of_own {W W0 : World} {F : Nat → Prop} {v : Value} {M : List ByteArray} (h : W.ownsRow W0.heap.size 9 1 v M.length (M.map Value.string)) (hF : ∀ k, F k → k < W0.heap.size) : MayAt W F v M := by
  rcases h.2 with ⟨rfl, h0⟩ | ⟨q, cap, cur, rfl, hbg, hgb, hnc, hcm, hcs, htake⟩
  · exact .inl ⟨rfl, List.eq_nil_of_length_eq_zero h0⟩
  · refine .inr ⟨q, cap, cur, rfl, hnc, fun hf => by have := hF q hf; omega, hgb, fun i hi => ?_⟩
    have h1 : (M.map Value.string)[i]? = some (.string M[i]) := by rw [List.getElem?_map, List.getElem?_eq_getElem hi]; rfl
    rw [← htake, List.getElem?_take] at h1
    split at h1
    · rw [← Array.getElem?_toList]; exact h1
    · cases h1
end
end Go.Proofs.YtcallfgihohldaaDoor.PA
namespace Go.Proofs
section

open Go.Shelf Go.RowKit Go.Maps Go.Sort
def Tryd.keys29_ren : Go.Shelf.Ren := ⟨fun | 7 => 29 | 10 => 46 | n => n, fun | 23 => 53 | 26 => 9 | 3 => 30 | 28 => 64 | 0 => 0 | 27 => 63 | 33 => 34 | 4 => 4 | n => n, fun | n => n⟩
theorem Tryd.keys29 : Go.Proofs.SlLaysZ.n7 Tryd.prog Tryd.keys29_ren := {
  mixed := by kernel_rfl
  f7 := ⟨Tryd.f29.name, by decide, Tryd.func29.trans (congrArg some (by kernel_rfl))⟩
  f10 := ⟨Tryd.f46.name, by decide, Tryd.func46.trans (congrArg some (by kernel_rfl))⟩
  t0 := Tryd.underlying0
  a0 := Tryd.isAgg0
  z0 := Tryd.sizeOf0
  v0 := Tryd.zeroValue0
  t4 := Tryd.underlying4
  a4 := Tryd.isAgg4
  z4 := Tryd.sizeOf4
  v4 := Tryd.zeroValue4
  t23 := Tryd.underlying53
  a23 := Tryd.isAgg53
  z23 := Tryd.sizeOf53
  v23 := Tryd.zeroValue53
  t26 := Tryd.underlying9
  a26 := Tryd.isAgg9
  z26 := Tryd.sizeOf9
  v26 := Tryd.zeroValue9
  t27 := Tryd.underlying63
  a27 := Tryd.isAgg63
  z27 := Tryd.sizeOf63
  v27 := Tryd.zeroValue63
  t28 := Tryd.underlying64
  a28 := Tryd.isAgg64
  z28 := Tryd.sizeOf64
  v28 := Tryd.zeroValue64
  t33 := Tryd.underlying34
  a33 := Tryd.isAgg34
  z33 := Tryd.sizeOf34
  v33 := Tryd.zeroValue34 }
def Tryd.sorted28_ren : Go.Shelf.Ren := ⟨fun | 6 => 28 | 8 => 44 | 9 => 45 | 11 => 54 | 13 => 56 | 12 => 55 | 23 => 69 | 24 => 70 | 14 => 60 | 15 => 61 | 16 => 62 | 17 => 63 | 18 => 64 | 19 => 65 | 20 => 66 | 21 => 67 | 22 => 68 | 25 => 75 | 26 => 76 | 27 => 77 | 28 => 78 | 29 => 79 | 30 => 80 | 31 => 82 | n => n, fun | 26 => 9 | 28 => 64 | 24 => 22 | 0 => 0 | 3 => 3 | 37 => 88 | 48 => 99 | 50 => 101 | 4 => 4 | 40 => 92 | 39 => 91 | 45 => 78 | 5 => 5 | 9 => 9 | 51 => 110 | 55 => 114 | 57 => 116 | 58 => 117 | 33 => 34 | n => n, fun | n => n⟩
theorem Tryd.sorted28 : Go.Proofs.SlLaysZ.n6 Tryd.prog Tryd.sorted28_ren := {
  mixed := by kernel_rfl
  f6 := ⟨Tryd.f28.name, by decide, Tryd.func28.trans (congrArg some (by kernel_rfl))⟩
  f8 := ⟨Tryd.f44.name, by decide, Tryd.func44.trans (congrArg some (by kernel_rfl))⟩
  f11 := ⟨Tryd.f54.name, by decide, Tryd.func54.trans (congrArg some (by kernel_rfl))⟩
  t0 := Tryd.underlying0
  a0 := Tryd.isAgg0
  z0 := Tryd.sizeOf0
  v0 := Tryd.zeroValue0
  t24 := Tryd.underlying22
  a24 := Tryd.isAgg22
  z24 := Tryd.sizeOf22
  v24 := Tryd.zeroValue22
  t26 := Tryd.underlying9
  a26 := Tryd.isAgg9
  z26 := Tryd.sizeOf9
  v26 := Tryd.zeroValue9
  t28 := Tryd.underlying64
  a28 := Tryd.isAgg64
  z28 := Tryd.sizeOf64
  v28 := Tryd.zeroValue64
  i26 := by kernel_rfl }
def Tryd.sort45_ren : Go.Shelf.Ren := ⟨fun | 6 => 45 | 8 => 56 | 9 => 55 | 19 => 69 | 20 => 70 | 21 => 60 | 22 => 61 | 23 => 62 | 24 => 63 | 25 => 64 | 26 => 65 | 27 => 66 | 28 => 67 | 29 => 68 | 36 => 75 | 31 => 76 | 32 => 77 | 37 => 78 | 38 => 79 | 39 => 80 | 41 => 82 | n => n, fun | 27 => 22 | 29 => 9 | 3 => 3 | 32 => 88 | 26 => 22 | 0 => 0 | 44 => 99 | 46 => 101 | 4 => 4 | 36 => 92 | 35 => 91 | 41 => 78 | 5 => 5 | 9 => 9 | 53 => 110 | 57 => 114 | 63 => 116 | 64 => 117 | n => n, fun | n => n⟩
theorem Tryd.sort45 : Go.Proofs.SlLaysM.n6 Tryd.prog Tryd.sort45_ren := {
  mixed := by kernel_rfl
  f6 := ⟨Tryd.f45.name, by decide, Tryd.func45.trans (congrArg some (by kernel_rfl))⟩
  f8 := Tryd.func56.trans (congrArg some (by kernel_rfl))
  f9 := ⟨Tryd.f55.name, by decide, Tryd.func55.trans (congrArg some (by kernel_rfl))⟩
  f19 := Tryd.func69.trans (congrArg some (by kernel_rfl))
  f20 := Tryd.func70.trans (congrArg some (by kernel_rfl))
  f21 := ⟨Tryd.f60.name, by decide, Tryd.func60.trans (congrArg some (by kernel_rfl))⟩
  f22 := ⟨Tryd.f61.name, by decide, Tryd.func61.trans (congrArg some (by kernel_rfl))⟩
  f23 := ⟨Tryd.f62.name, by decide, Tryd.func62.trans (congrArg some (by kernel_rfl))⟩
  f24 := ⟨Tryd.f63.name, by decide, Tryd.func63.trans (congrArg some (by kernel_rfl))⟩
  f25 := ⟨Tryd.f64.name, by decide, Tryd.func64.trans (congrArg some (by kernel_rfl))⟩
  f26 := ⟨Tryd.f65.name, by decide, Tryd.func65.trans (congrArg some (by kernel_rfl))⟩
  f27 := ⟨Tryd.f66.name, by decide, Tryd.func66.trans (congrArg some (by kernel_rfl))⟩
  f28 := ⟨Tryd.f67.name, by decide, Tryd.func67.trans (congrArg some (by kernel_rfl))⟩
  f29 := ⟨Tryd.f68.name, by decide, Tryd.func68.trans (congrArg some (by kernel_rfl))⟩
  f31 := Tryd.func76.trans (congrArg some (by kernel_rfl))
  f32 := Tryd.func77.trans (congrArg some (by kernel_rfl))
  f36 := ⟨Tryd.f75.name, by decide, Tryd.func75.trans (congrArg some (by kernel_rfl))⟩
  f37 := ⟨Tryd.f78.name, by decide, Tryd.func78.trans (congrArg some (by kernel_rfl))⟩
  f38 := ⟨Tryd.f79.name, by decide, Tryd.func79.trans (congrArg some (by kernel_rfl))⟩
  f39 := ⟨Tryd.f80.name, by decide, Tryd.func80.trans (congrArg some (by kernel_rfl))⟩
  f41 := ⟨Tryd.f82.name, by decide, Tryd.func82.trans (congrArg some (by kernel_rfl))⟩
  t0 := Tryd.underlying0
  a0 := Tryd.isAgg0
  z0 := Tryd.sizeOf0
  v0 := Tryd.zeroValue0
  t3 := Tryd.underlying3
  a3 := Tryd.isAgg3
  z3 := Tryd.sizeOf3
  v3 := Tryd.zeroValue3
  t4 := Tryd.underlying4
  a4 := Tryd.isAgg4
  z4 := Tryd.sizeOf4
  v4 := Tryd.zeroValue4
  t5 := Tryd.underlying5
  a5 := Tryd.isAgg5
  z5 := Tryd.sizeOf5
  v5 := Tryd.zeroValue5
  t9 := Tryd.underlying9
  a9 := Tryd.isAgg9
  z9 := Tryd.sizeOf9
  v9 := Tryd.zeroValue9
  t26 := Tryd.underlying22
  a26 := Tryd.isAgg22
  z26 := Tryd.sizeOf22
  v26 := Tryd.zeroValue22
  t27 := Tryd.underlying22
  a27 := Tryd.isAgg22
  z27 := Tryd.sizeOf22
  v27 := Tryd.zeroValue22
  t29 := Tryd.underlying9
  a29 := Tryd.isAgg9
  z29 := Tryd.sizeOf9
  v29 := Tryd.zeroValue9
  t32 := Tryd.underlying88
  a32 := Tryd.isAgg88
  z32 := Tryd.sizeOf88
  v32 := Tryd.zeroValue88
  t35 := Tryd.underlying91
  a35 := Tryd.isAgg91
  z35 := Tryd.sizeOf91
  v35 := Tryd.zeroValue91
  t36 := Tryd.underlying92
  a36 := Tryd.isAgg92
  z36 := Tryd.sizeOf92
  v36 := Tryd.zeroValue92
  t41 := Tryd.underlying78
  a41 := Tryd.isAgg78
  z41 := Tryd.sizeOf78
  v41 := Tryd.zeroValue78
  t44 := Tryd.underlying99
  a44 := Tryd.isAgg99
  z44 := Tryd.sizeOf99
  v44 := Tryd.zeroValue99
  t46 := Tryd.underlying101
  a46 := Tryd.isAgg101
  z46 := Tryd.sizeOf101
  v46 := Tryd.zeroValue101
  t53 := Tryd.underlying110
  a53 := Tryd.isAgg110
  z53 := Tryd.sizeOf110
  v53 := Tryd.zeroValue110
  t57 := Tryd.underlying114
  a57 := Tryd.isAgg114
  z57 := Tryd.sizeOf114
  v57 := Tryd.zeroValue114
  t63 := Tryd.underlying116
  a63 := Tryd.isAgg116
  z63 := Tryd.sizeOf116
  v63 := Tryd.zeroValue116
  t64 := Tryd.underlying117
  a64 := Tryd.isAgg117
  z64 := Tryd.sizeOf117
  v64 := Tryd.zeroValue117 }
theorem Tryd.sorts28 (m : Nat) : AnyZ.SortsIn Tryd.prog Tryd.sorted28_ren Fence.wide m :=
  ⟨fun blk off cap ss W hH hblk hsz => callsIn_wide.2 (AnyM.slices_Sort_string Tryd.sort45 blk off cap ss W hH hblk hsz),
   fun p cap W => callsIn_wide.2 (AnyM.slices_Sort_string_none Tryd.sort45 p cap W)⟩
theorem Tryd.maps_Keys_29 (mb : Option Nat) (W : World) : CallsIn Fence.wide 5 Tryd.prog 29 #[.map mb] W fun e w' => e = .returned (.func (.func 46) #[] #[.pointer (some ⟨W.heap.size, 0, none⟩)]) ∧ w' = W.alloc (.cells #[.map mb] 53) :=
  AnyZ.keys_in Tryd.keys29 Fence.wide 5 trivial rfl mb W
set_option maxHeartbeats 1000000 in
theorem Tryd.slices_Sorted_keys_28_29 {H : Type} (b nn : Nat) (D0 : DataW H) (R : Value → Option (DataW H × List MemPlace)) (w : World) (hown : w.ownsMap Tryd.prog 9 R b nn D0) (hmax : Maps.size D0 ≤ maxLen) (hbytes : Maps.size D0 * 16 ≤ 140737488355328) :
    CallsIn Fence.wide 5 Tryd.prog 28 #[.func (.func 46) #[] #[.pointer (some ⟨w.heap.size, 0, none⟩)]] (w.alloc (.cells #[.map (some b)] 53)) fun e w' => ∃ (v : Value) (ss : List (List UInt8)), e = .returned v ∧ ss.Perm (strKeys D0) ∧
      w'.ownsRow (w.alloc (.cells #[.map (some b)] 53)).heap.size 9 1 v ss.length ((ss.mergeSort (fun x y => decide (x ≤ y))).map encStr) ∧ (v = .slice none 0 0 ↔ ss = []) ∧ Below (w.alloc (.cells #[.map (some b)] 53)).heap.size (w.alloc (.cells #[.map (some b)] 53)) w' := by
  have hbl := hown.lt
  have hseq : SeqGives Fence.wide 2 Tryd.prog 46 #[.pointer (some ⟨w.heap.size, 0, none⟩)] encStr (fun ss => ss.Perm (strKeys D0)) (Maps.size D0) (w.alloc (.cells #[.map (some b)] 53)) :=
    AnyZ.keys_gives (ρ := Tryd.keys29_ren) { Tryd.keys29 with } Fence.wide _ trivial rfl (by omega) w.heap.size b nn D0 _ (by simp) (by simp) (by
      obtain ⟨es, clock, hb, Ft, hs, hD⟩ := hown
      exact ⟨es, clock, (Below.heap_alloc _ _ b hbl).trans hb, Ft, hs, hD⟩)
  exact AnyZ.sorted_in Tryd.sorted28 Fence.wide 5 trivial trivial trivial trivial rfl (by omega) (Tryd.sorts28 _) (enters_of Tryd.func45 (by kernel_rfl) rfl) 46 #[.pointer (some ⟨w.heap.size, 0, none⟩)] trivial (enters_of Tryd.func46 (by kernel_rfl) rfl) _ _ hmax hbytes _ hseq
end
end Go.Proofs
namespace Go.Proofs.YtcallfgihohldaaDoor.PA
section

open Go.RowKit Go.Proofs.YtcallfgihohldaaDoorW.PrintWords Go.Proofs.YtcallfgihohldaaDoorW.PrintLast Go.Proofs.YtcallfgihohldaaDoorW.PrintMore
attribute [local go_sem] max2_int min2_int max_two min_two max_three min_three max_four min_four
set_option linter.unusedVariables false
set_option linter.unusedSimpArgs false
structure KeysOf (m : ByteArray → Option (List Int)) (L : List ByteArray) : Prop where
  nodup : L.Nodup
  sorted : L.Pairwise (fun a b => a.data.toList ≤ b.data.toList)
  mem : ∀ k : ByteArray, k.size ≤ maxLen → (k ∈ L ↔ (m k).isSome = true)
  size : ∀ k ∈ L, k.size ≤ maxLen
theorem ba_inj {a b : ByteArray} (h : a.data.toList = b.data.toList) : a = b := by
  obtain ⟨⟨a⟩⟩ := a
  obtain ⟨⟨b⟩⟩ := b
  simp only at h
  rw [h]
theorem keys_of {W : World} {F : Nat → Prop} {bm n : Nat} {m : ByteArray → Option (List Int)} {D : DataW Value} (hown : W.ownsMap Tryd.prog 9 tokR bm n D) (hk : MapK W F D m) {ss : List (List UInt8)} (hp : ss.Perm (strKeys D)) :
    KeysOf m ((ss.mergeSort (fun x y => decide (x ≤ y))).map (fun x => (⟨x.toArray⟩ : ByteArray))) := by
  have hle := strKeys_le hown Tryd.underlying9
  obtain ⟨es, hD, hpw⟩ := hown.tidy law9
  obtain ⟨es', hD', hko⟩ := hown.keysOf
  have e : es = es' := by rw [hD] at hD'; simpa using hD'
  subst e
  have hstr : ∀ p ∈ es, ∃ x, p.1 = .string x := fun p hp => by
    obtain ⟨v, hv⟩ := hko p hp
    obtain ⟨x, _, hx, _⟩ := Maps.keyOf_str Tryd.underlying9 hv
    exact ⟨x, hx⟩
  have hmem : ∀ x, x ∈ strKeys D ↔ Go.Maps.has D (.string x) = true := fun x => by
    rw [hD, Go.Maps.has_eq, List.any_eq_true]
    show x ∈ es.map (fun p => strOf p.1) ↔ _
    rw [List.mem_map]
    constructor
    · rintro ⟨p, hp', rfl⟩
      obtain ⟨a, ha⟩ := hstr p hp'
      exact ⟨p, hp', by rw [ha]; simp [Lit.sameKey, strOf]⟩
    · rintro ⟨p, hp', hs⟩
      obtain ⟨a, ha⟩ := hstr p hp'
      rw [ha] at hs
      exact ⟨p, hp', by rw [ha]; simpa [Lit.sameKey, strOf] using hs⟩
  have hnd : (strKeys D).Nodup := by
    rw [hD]
    show (es.map fun p => strOf p.1).Nodup
    refine List.pairwise_map.2 (hpw.imp_of_mem fun {p q} hp' hq' hne e => hne ?_)
    obtain ⟨a, ha⟩ := hstr p hp'
    obtain ⟨b, hb⟩ := hstr q hq'
    rw [ha, hb] at e ⊢
    exact congrArg _ e
  have hms := List.mergeSort_perm ss (fun x y => decide (x ≤ y))
  have tr : ∀ a b c : List UInt8, decide (a ≤ b) = true → decide (b ≤ c) = true → decide (a ≤ c) = true := fun a b c h1 h2 => by simp only [decide_eq_true_eq] at *; exact List.le_trans h1 h2
  have tot : ∀ a b : List UInt8, (decide (a ≤ b) || decide (b ≤ a)) = true := fun a b => by simp only [Bool.or_eq_true, decide_eq_true_eq]; exact List.le_total a b
  have hkm : ∀ k : ByteArray, k ∈ (ss.mergeSort (fun x y => decide (x ≤ y))).map (fun x => (⟨x.toArray⟩ : ByteArray)) ↔ k.data.toList ∈ strKeys D := fun k => by
    rw [List.mem_map]
    constructor
    · rintro ⟨x, hx, rfl⟩
      simpa using hp.mem_iff.1 (hms.mem_iff.1 hx)
    · intro h
      exact ⟨_, hms.mem_iff.2 (hp.mem_iff.2 h), ba_inj (by simp)⟩
  refine ⟨?_, ?_, fun k hkl => ?_, fun k hk' => ?_⟩
  · refine List.pairwise_map.2 ((hms.nodup_iff.2 (hp.nodup_iff.2 hnd)).imp fun {a b} hne e => hne ?_)
    have := congrArg (fun b : ByteArray => b.data.toList) e
    simpa using this
  · refine List.pairwise_map.2 ((List.pairwise_mergeSort tr tot ss).imp fun {a b} h => ?_)
    simpa using h
  · rw [hkm, hmem, ← (hk k hkl).1]
    rfl
  · exact hle _ ((hkm k).1 hk')
set_option maxHeartbeats 2000000 in
set_option maxRecDepth 100000 in
theorem list_calls {W : World} {F : Nat → Prop} {g n : Nat} {S : BSt} (h : BAt W F g n S) (hn : n ≤ 1000000) :
    Calls Tryd.prog 21 #[.pointer (some ⟨g, 0, none⟩)] W fun e W' => ∃ v L, e = .returned (.tuple #[v, .int .i64 (if S.o = 0 then 0 else 15)]) ∧ W'.ownsRow W.heap.size 9 1 v (L : List ByteArray).length (L.map Value.string) ∧ (S.o = 0 → KeysOf S.m L) ∧ (S.o ≠ 0 → L = []) ∧ BAt W' F g n S.next ∧ Went F F W W' := by
  have Xh := Aside0.mk h
  have Xn := Aside0.mk hn
  clear h hn
  obtain ⟨o, ho⟩ : ∃ o, o = S.o := ⟨_, rfl⟩
  obtain ⟨S1, hS1⟩ : ∃ S1, S1 = S.next := ⟨_, rfl⟩
  have hm : S1.m = S.m := by rw [hS1]; rfl
  have hK : Calls Tryd.prog 24 #[.pointer (some ⟨g, 0, none⟩)] W fun e W' => e = .returned (.int .i64 o) ∧ BAt W' F g n S1 ∧ Went F F W W' := by
    rw [hS1, ho]
    refine (take_calls Xh.out).mono ?_
    rintro e w2 ⟨rfl, hb2, hg2⟩
    obtain ⟨bm, vo, hb, hFg, _⟩ := Xh.out
    exact ⟨rfl, hb2, ⟨Chg.grown hg2 hFg, fun _ h => .inl h⟩⟩
  have XK := Aside0.mk hK
  have Xm := Aside0.mk hm
  rw [← ho, ← hS1, ← hm]
  clear hK hS1 ho hm
  by_cases h0 : o = 0
  · rw [if_pos h0]
    have hb0 : (o != 0) = false := by simp [h0]
    have X0 := Aside0.mk h0
    clear h0
    go_enter Tryd.func21, Tryd.ntmps21
    go_wp2_with (first | (go_at_call 24; refine XK.out.mono ?_; rintro e w2 ⟨rfl, hb2, hW2⟩; have XW := Aside0.mk hW2; have Xb2 := Aside0.mk hb2; obtain ⟨bm, vo, hb, hFg, ⟨D, hown, hbF, hk⟩, hO⟩ := hb2; have c0 : w2.cell? ⟨g, 0, none⟩ = some (.map (some bm)) := blk_cell hb 0; have Xown := Aside0.mk hown; have Xk := Aside0.mk hk; clear hb hFg hown hbF hk hO hW2) | (go_at_call 29; refine (callsIn_wide.1 (Tryd.maps_Keys_29 _ _)).mono ?_; rintro e w' ⟨rfl, rfl⟩) | fail)
    refine (callsIn_wide.1 (Tryd.slices_Sorted_keys_28_29 bm n D tokR w2 Xown.out (by have := Xown.out.size_le; have := Xn.out; simp only [maxLen]; omega) (by have := Xown.out.size_le; have := Xn.out; omega))).mono ?_
    rintro e w3 ⟨v, ss, rfl, hp, hrow, _, hB3⟩
    have hB : Below w2.heap.size w2 w3 := (below_alloc (Below.refl _ _) _).trans (hB3.mono (by simp))
    have XR := Aside0.mk (And.intro hp (And.intro hrow hB))
    clear hp hrow hB3 hB
    go_wp2_with fail
    go_ret2
    refine ⟨_, (ss.mergeSort (fun x y => decide (x ≤ y))).map (fun x => (⟨x.toArray⟩ : ByteArray)), rfl, ?_, fun _ => keys_of Xown.out Xk.out XR.out.1, fun h => absurd X0.out h, Xb2.out.below XR.out.2.2, XW.out.trans (Went.of XR.out.2.2)⟩
    have h1 := own_weaken XR.out.2.1 (show W.heap.size ≤ _ by have := XW.out.chg.size; simp; omega)
    rw [List.length_map, List.length_mergeSort, List.map_map]
    exact h1
  · rw [if_neg h0]
    have hb0 : (o != 0) = true := bne_iff_ne.2 h0
    have X0 := Aside0.mk h0
    clear h0
    go_enter Tryd.func21, Tryd.ntmps21
    go_wp2_with (first | (go_at_call 24; refine XK.out.mono ?_; rintro e w2 ⟨rfl, hb2, hW2⟩; have XW := Aside0.mk hW2; have Xb2 := Aside0.mk hb2; clear hb2 hW2) | fail)
    go_ret2
    exact ⟨_, [], rfl, World.ownsRow_nil _ _ _ _, fun h => absurd h X0.out, fun _ => rfl, Xb2.out, XW.out⟩
end
end Go.Proofs.YtcallfgihohldaaDoor.PA
namespace Go.Proofs.YtcallfgihohldaaDoor.PA
section

open Go.RowKit Go.Proofs.YtcallfgihohldaaDoorW.PrintWords Go.Proofs.YtcallfgihohldaaDoorW.PrintLast Go.Proofs.YtcallfgihohldaaDoorW.PrintMore
attribute [local go_sem] max2_int min2_int max_two min_two max_three min_three max_four min_four
set_option linter.unusedVariables false
set_option linter.unusedSimpArgs false
theorem C_chg2 {k : IntKind} {W W' : World} {F : Nat → Prop} {A : Option Addr} {n : Nat} {l : List Int} (hc : Chg F W W') (hA : 0 < n → ∀ ad, A = some ad → ¬ F ad.block) (h : (Kd.int k).C W A n l) : (Kd.int k).C W' A n l :=
  ⟨h.1, h.2.1, fun h0 => by
    obtain ⟨ad, e, hh⟩ := h.2.2 h0
    refine ⟨ad, e, fun j p hj => ?_⟩
    obtain ⟨cs, h1, h2, h3⟩ := hh j p hj
    refine ⟨cs, h1, h2, fun q u hu => ?_⟩
    have h4 := h3 q u hu
    have h5 := cell_blk_lt h4
    exact (cell_of_blk (hc.block _ h5 (by rw [add_block]; exact hA h0 ad e))).trans h4⟩
theorem sat_get2 {W : World} {B : Nat} {F : Nat → Prop} {g n : Nat} {S : BSt} (h : SAt W B F g n S) (nm : ByteArray) (r : BSt × List Int × Int) (hp : S.get nm = r) :
    Calls Tryd.prog 13 #[.pointer (some ⟨g, 0, none⟩), .string nm] W fun e W' => ∃ A c, e = .returned (.tuple #[.slice A r.2.1.length c, .int .i64 r.2.2]) ∧ (Kd.int .u8).C W' A r.2.1.length r.2.1 ∧ (0 < r.2.1.length → ∀ ad, A = some ad → ¬ F ad.block) ∧ SAt W' B F g n r.1 ∧ Went F F W W' := by
  refine (sat_get h nm r hp).mono ?_
  rintro e W' ⟨v, rfl, hv, hS, hW⟩
  rcases hv with ⟨A, rfl, hb⟩ | ⟨q, c, cs, h1, h2, h3, h4, h5⟩
  · rw [hb]
    exact ⟨A, 0, rfl, ⟨rfl, by simp, fun h => absurd h (by simp)⟩, fun h => absurd h (by simp), hS, hW⟩
  · have hv' : BytesAt W' (fun k => W.heap.size ≤ k ∧ k < W'.heap.size) v r.2.1 := .inr ⟨q, c, cs, h1, h2, h3, h4, h5⟩
    obtain ⟨A, c', e, hC, _⟩ := hv'.reads
    subst e
    refine ⟨A, c', rfl, hC, fun _ ad e hF => ?_, hS, hW⟩
    injection h1 with h1
    rw [e] at h1
    have h1' : ad = ⟨q, 0, none⟩ := Option.some.inj h1
    subst h1'
    have h6 := h.lt q hF
    have h3' : W.heap.size ≤ q ∧ q < W'.heap.size := h3
    omega
theorem sat_list {W : World} {B : Nat} {F : Nat → Prop} {g n : Nat} {S : BSt} (h : SAt W B F g n S) (hn : n ≤ 1000000) (o : Int) (ho : S.o = o) (S1 : BSt) (hS1 : S.next = S1) :
    Calls Tryd.prog 21 #[.pointer (some ⟨g, 0, none⟩)] W fun e W' => ∃ (A : Option Addr) (k c : Nat) (L : List ByteArray), e = .returned (.tuple #[.slice A k c, .int .i64 (if o = 0 then 0 else 15)]) ∧ k = L.length ∧ (o = 0 → KeysOf S.m L) ∧
      W'.ownsRow W.heap.size 9 1 (.slice A k c) L.length (L.map Value.string) ∧ SAt W' B F g n S1 ∧ Went F F W W' := by
  subst ho hS1
  refine (list_calls h.at_ hn).mono ?_
  rintro e W' ⟨v, L, rfl, hR, hK, _, hb, hW⟩
  have hR' := hR
  rcases hR.2 with ⟨rfl, h0⟩ | ⟨q, cap, cur, rfl, _⟩
  · exact ⟨none, 0, 0, L, rfl, h0.symm, hK, hR', h.went hW hb, hW⟩
  · exact ⟨_, _, _, L, rfl, rfl, hK, hR', h.went hW hb, hW⟩
end
end Go.Proofs.YtcallfgihohldaaDoor.PA
namespace Go.Proofs.YtcallfgihohldaaDoor.PA
section

open Go.RowKit Go.Proofs.YtcallfgihohldaaDoorW.PrintWords Go.Proofs.YtcallfgihohldaaDoorW.PrintLast Go.Proofs.YtcallfgihohldaaDoorW.PrintMore
attribute [local go_sem] max2_int min2_int max_two min_two max_three min_three max_four min_four
set_option linter.unusedVariables false
set_option linter.unusedSimpArgs false
theorem name_it : nameB ⟨#[105, 116]⟩ = true := nameB_of (by decide)
theorem name_other : nameB ⟨#[111, 116, 104, 101, 114]⟩ = true := nameB_of (by decide)
theorem it_other : (⟨#[105, 116]⟩ : ByteArray) ≠ ⟨#[111, 116, 104, 101, 114]⟩ := by
  intro h
  injection h with h
  have := congrArg Array.size h
  simp at this
theorem put_plain {S : BSt} {nm : ByteArray} {b : List Int} (hn : nameB nm = true) (hl : b.length ≤ 60000) (h : S.outs = []) :
    S.put nm b = (S.next.set nm (some b), 0) ∧ (S.next.set nm (some b)).outs = [] ∧ (∀ k, k ≠ nm → (S.next.set nm (some b)).m k = S.m k) ∧ (S.next.set nm (some b)).m nm = some b :=
  ⟨BSt.put_val hn hl (BSt.o_nil h), by simp [BSt.next, BSt.set, h], fun k hk => by simp [BSt.set, BSt.next, hk], by simp [BSt.set]⟩
end
end Go.Proofs.YtcallfgihohldaaDoor.PA
namespace Go.Proofs.YtcallfgihohldaaDoor.PA
section

open Go.RowKit Go.Proofs.YtcallfgihohldaaDoorW.PrintWords Go.Proofs.YtcallfgihohldaaDoorW.PrintLast Go.Proofs.YtcallfgihohldaaDoorW.PrintMore
attribute [local go_sem] max2_int min2_int max_two min_two max_three min_three max_four min_four
set_option linter.unusedVariables false
set_option linter.unusedSimpArgs false
/-- What the store holds: the other blob, and perhaps the one. -/
structure OthersInv (S : BSt) (t : Option (List Int)) : Prop where
  outs : S.outs = []
  it : S.m ⟨#[105, 116]⟩ = t
  other : S.m ⟨#[111, 116, 104, 101, 114]⟩ = some [111]
  rest : ∀ k : ByteArray, k ≠ ⟨#[105, 116]⟩ → k ≠ ⟨#[111, 116, 104, 101, 114]⟩ → S.m k = none
theorem others_put {S : BSt} {t : Option (List Int)} (h : OthersInv S t) (b : List Int) (hl : b.length ≤ 60000) : ∃ S', S.put ⟨#[105, 116]⟩ b = (S', 0) ∧ OthersInv S' (some b) := by
  obtain ⟨h1, h2, h3, h4⟩ := put_plain (S := S) (b := b) name_it hl h.outs
  exact ⟨_, h1, h2, h4, by rw [h3 _ it_other.symm]; exact h.other, fun k h5 h6 => by rw [h3 k h5]; exact h.rest k h5 h6⟩
theorem others_del {S : BSt} {t : Option (List Int)} (h : OthersInv S t) : ∃ S', S.del ⟨#[105, 116]⟩ = (S', 0) ∧ OthersInv S' none := by
  have ho := BSt.o_nil h.outs
  refine ⟨S.next.set ⟨#[105, 116]⟩ none, ?_, by simp [BSt.next, BSt.set, h.outs], by simp [BSt.set], by simp [BSt.set, BSt.next, it_other.symm, h.other], fun k h5 h6 => by simp [BSt.set, BSt.next, h5, h.rest k h5 h6]⟩
  unfold BSt.del
  rw [name_it, if_pos rfl, ho]
  rfl
theorem others_get {S : BSt} {t : Option (List Int)} (h : OthersInv S t) : ∃ S', S.get ⟨#[105, 116]⟩ = (S', t.getD [], if t.isSome then 0 else 7) ∧ OthersInv S' t := by
  have hv := BSt.get_val (S := S) name_it (BSt.o_nil h.outs)
  rw [h.it] at hv
  refine ⟨S.next, ?_, by simp [BSt.next, h.outs], h.it, h.other, h.rest⟩
  cases t <;> exact hv
theorem others_get2 {S : BSt} {t : Option (List Int)} (h : OthersInv S t) : ∃ S', S.get ⟨#[111, 116, 104, 101, 114]⟩ = (S', [111], 0) ∧ OthersInv S' t := by
  have hv := BSt.get_val (S := S) name_other (BSt.o_nil h.outs)
  rw [h.other] at hv
  exact ⟨S.next, hv, by simp [BSt.next, h.outs], h.it, h.other, h.rest⟩
theorem others_next {S : BSt} {t : Option (List Int)} (h : OthersInv S t) : OthersInv S.next t := ⟨by simp [BSt.next, h.outs], h.it, h.other, h.rest⟩
theorem others_len {S : BSt} {t : Option (List Int)} (h : OthersInv S t) {L : List ByteArray} (hL : KeysOf S.m L) : L.length = if t.isSome then 2 else 1 := by
  have hsz : (⟨#[105, 116]⟩ : ByteArray).size ≤ maxLen := by decide
  have hsz2 : (⟨#[111, 116, 104, 101, 114]⟩ : ByteArray).size ≤ maxLen := by decide
  cases t with
  | none =>
    have hp : L.Perm [⟨#[111, 116, 104, 101, 114]⟩] := (List.perm_ext_iff_of_nodup hL.nodup (by simp)).2 fun k => by
      rw [List.mem_singleton]
      constructor
      · intro hk
        have := (hL.mem k (hL.size k hk)).1 hk
        by_cases h1 : k = ⟨#[105, 116]⟩
        · rw [h1, h.it] at this; cases this
        · by_cases h2 : k = ⟨#[111, 116, 104, 101, 114]⟩
          · exact h2
          · rw [h.rest k h1 h2] at this; cases this
      · rintro rfl
        exact (hL.mem _ hsz2).2 (by rw [h.other]; rfl)
    exact hp.length_eq
  | some b =>
    have hp : L.Perm [⟨#[105, 116]⟩, ⟨#[111, 116, 104, 101, 114]⟩] := (List.perm_ext_iff_of_nodup hL.nodup (by simp [it_other])).2 fun k => by
      simp only [List.mem_cons, List.not_mem_nil, or_false]
      constructor
      · intro hk
        have := (hL.mem k (hL.size k hk)).1 hk
        by_cases h1 : k = ⟨#[105, 116]⟩
        · exact .inl h1
        · by_cases h2 : k = ⟨#[111, 116, 104, 101, 114]⟩
          · exact .inr h2
          · rw [h.rest k h1 h2] at this; cases this
      · rintro (rfl | rfl)
        · exact (hL.mem _ hsz).2 (by rw [h.it]; rfl)
        · exact (hL.mem _ hsz2).2 (by rw [h.other]; rfl)
    exact hp.length_eq
set_option maxHeartbeats 16000000 in
set_option maxRecDepth 100000 in
theorem cisternlaw02_BlobOthers.walk (A0 : Option Addr) (c0 : Nat) (l0 : List ByteArray) (A1 : Option Addr) (c1 : Nat) (l1 : List Bool) (w : World) (hr0 : Kd.C Kd.string w A0 l0.length l0) (hc0 : l0.length ≤ c0) (y0 : l0.length * 16 ≤ 140737488351232) (w0 : ∀ v ∈ l0, v.size ≤ maxLen)
    (hr1 : Kd.C Kd.bool w A1 l1.length l1) (hc1 : l1.length ≤ c1) (y1 : l1.length * 1 ≤ 140737488351232) (w1 : ∀ v ∈ l1, True) :
    Calls Tryd.prog 6 #[.slice A0 l0.length c0, .slice A1 l1.length c1] w fun e w' => e = .returned (.bool true) ∧ Below w.heap.size w w' := by
  clear w0 w1 hc0 hc1 y0 y1
  have R0 := Aside0.mk hr0
  have R1 := Aside0.mk hr1
  clear hr0 hr1
  have kc := fun (w : World) (C : Array Value) (n c : Nat) => Lib.run_convert_bytes_const (P := Tryd.prog) w 30 5 C n c Tryd.underlying30 Tryd.underlying5
  have hpo := put_plain (S := BSt.new) (b := [111]) name_other (by decide) rfl
  have HPO := Aside0.mk hpo.1
  have HI0 : Aside0 (OthersInv (BSt.new.next.set ⟨#[111, 116, 104, 101, 114]⟩ (some [111])) none) := ⟨⟨hpo.2.1, by rw [hpo.2.2.1 _ it_other]; rfl, hpo.2.2.2, fun k _ h2 => by rw [hpo.2.2.1 k h2]; rfl⟩⟩
  clear hpo
  go_enter Tryd.func6, Tryd.ntmps6
  go_wp2_with fail
  refine (known_calls w).mono ?_
  rintro e wk ⟨rfl, hB⟩
  have BK := Aside0.mk hB
  clear hB
  go_wp2_with fail
  refine (sat_new wk).mono ?_
  rintro e wa ⟨g, F, rfl, hS, hB⟩
  have SA := Aside0.mk hS
  have BA := Aside0.mk (BK.out.trans (hB.mono BK.out.size))
  have Xk := Aside0.mk BK.out.size
  clear hS hB
  go_wp2_with fail
  refine (sat_put (SA.out.alloc (.cells #[.int .u8 111] 5 (1, 2))) (by decide) _ _ _ _ [111] rfl SA.out.fresh (C_row .u8 wa 5 (1, 2) [111] (by decide)) _ HPO.out).mono ?_
  rintro e wb ⟨rfl, F2, hS, hW⟩
  have SB := Aside0.mk hS
  have BB := Aside0.mk (BA.out.trans (((SA.out.alloc _).then (SA.out.bal (Below.refl _ _) _) hW).mono Xk.out))
  clear hS hW SA BA
  go_wp2_with fail
  go_loopw [6, 7] (fun v6 v7 w' => ∃ i : Nat, i ≤ l0.length ∧ i ≤ 30 ∧ v7 = .int .i64 (i : Int) ∧ (∃ nn : Bool, v6 = .bool nn) ∧ Aside0 (∃ F S n t, SAt w' wk.heap.size F g n S ∧ OthersInv S t ∧ n ≤ i + 1) ∧ Aside0 (Below w.heap.size w w')) (fun _ v7 _ => ((30 : Int) - intOf v7).toNat)
  case atStart => exact ⟨0, Nat.zero_le _, Nat.zero_le _, rfl, ⟨_, rfl⟩, ⟨_, _, _, _, SB.out, HI0.out, by decide⟩, BB⟩
  case round =>
    obtain ⟨i, hi, hi30, rfl, ⟨nn, rfl⟩, YS, YB⟩ := hrel
    clear SB BB
    by_cases hlt : i < l0.length
    · have d1 : decide (i < l0.length) = true := decide_eq_true hlt
      by_cases hlt2 : i < 30
      · have d2 : decide ((i : Int) < 30) = true := decide_eq_true (by omega)
        have p1 : (0 : Int) ≤ (i : Int) := Int.natCast_nonneg _
        have p2 : (i : Int) < (l0.length : Int) := Int.ofNat_lt.2 hlt
        obtain ⟨ad, hA, hc⟩ := Kd.at_string (Kd.C_below R0.out YB.out) (i : Int) p1 p2
        rw [Int.toNat_natCast] at hc
        obtain ⟨x, hx⟩ : ∃ x, x = rdOf ByteArray.empty l0 (i : Int) := ⟨_, rfl⟩
        rw [← hx] at hc
        subst hA
        have XX := Aside0.mk hx
        clear hx
        have XC : Aside0 (∀ W, Below w.heap.size w W → W.cell? (ad.add i) = some (.string x)) := ⟨fun W hW => by
          obtain ⟨ad', hA', hc'⟩ := Kd.at_string (Kd.C_below R0.out hW) (i : Int) p1 p2
          rw [Int.toNat_natCast, ← XX.out] at hc'
          injection hA' with hA'
          rw [hA']
          exact hc'⟩
        have HM : Aside0 (((30 : Int) - intOf (.int .i64 ((i + 1 : Nat) : Int))).toNat < ((30 : Int) - intOf (.int .i64 (i : Int))).toNat) := ⟨by simp [intOf]; omega⟩
        by_cases hx5 : 5000 < x.size
        · have d3 : decide ((5000 : Int) < (x.size : Int)) = true := decide_eq_true (by omega)
          clear hx5
          go_wp2_with fail
          go_ret
          exact ⟨rfl, YB.out⟩
        · have d3 : decide ((5000 : Int) < (x.size : Int)) = false := decide_eq_false (by omega)
          have X5 := Aside0.mk hx5
          clear hx5
          obtain ⟨F3, S, n, t, hS, hI, hn⟩ := YS.out
          have ES := Aside0.mk hS
          have EI := Aside0.mk hI
          have EN := Aside0.mk hn
          clear hS hI hn YS
          go_upto_region 12 with fail
          go_cut [48] (fun v48 wx => ∃ dd : Bool, v48 = .bool dd ∧ wr = wx)
          case first =>
            by_cases hl1 : i < l1.length
            · have d4 : decide ((i : Int) < (l1.length : Int)) = true := decide_eq_true (by omega)
              have p3 : (i : Int) < (l1.length : Int) := Int.ofNat_lt.2 hl1
              obtain ⟨ad1, hA, hc1⟩ := Kd.at_bool (Kd.C_below R1.out YB.out) (i : Int) p1 p3
              rw [Int.toNat_natCast] at hc1
              subst hA
              go_wp2_with fail
              go_meet
              exact ⟨_, rfl, rfl⟩
            · have d4 : decide ((i : Int) < (l1.length : Int)) = false := decide_eq_false (by omega)
              go_wp2_with fail
              go_meet
              exact ⟨_, rfl, rfl⟩
          case rest =>
            obtain ⟨dd, rfl, rfl⟩ := hcut
            go_upto_if 48 with fail
            go_cut [6] (fun v6 wx => ∃ nn : Bool, v6 = .bool nn ∧ Aside0 (∃ F S n t, SAt wx wk.heap.size F g n S ∧ OthersInv S t ∧ n ≤ i + 1 + 1 ∧ ((nn = true ∧ t = some (bytesOf x)) ∨ (nn = false ∧ t = none))) ∧ Aside0 (Below w.heap.size w wx))
            case first =>
              cases dd with
              | true =>
                obtain ⟨S', hd, hI'⟩ := others_del EI.out
                have HD := Aside0.mk hd
                have HI := Aside0.mk hI'
                clear hd hI'
                go_wp2_with fail
                refine (sat_del ES.out _ _ HD.out).mono ?_
                rintro e' wc ⟨rfl, hS, hW⟩
                have SC := Aside0.mk hS
                have BC := Aside0.mk (YB.out.trans ((ES.out.then (Below.refl _ _) hW).mono Xk.out))
                clear hS hW
                go_wp2_with fail
                go_meet
                exact ⟨false, rfl, ⟨_, _, _, _, SC.out, HI.out, by have := EN.out; omega, .inr ⟨rfl, rfl⟩⟩, BC⟩
              | false =>
                obtain ⟨S', hd, hI'⟩ := others_put EI.out (bytesOf x) (by rw [bytesOf_length]; have := X5.out; omega)
                have HD := Aside0.mk hd
                have HI := Aside0.mk hI'
                obtain ⟨cc, wc, hcv, hC, hB⟩ := conv_bytes wr x (by have := X5.out; omega)
                have SC := Aside0.mk (ES.out.below hB)
                have BC := Aside0.mk (YB.out.trans (hB.mono YB.out.size))
                have CC := Aside0.mk hC
                have FC := Aside0.mk (ES.out.fresh)
                clear hC hB hd hI'
                go_wp2_with fail
                clear hcv
                refine (sat_put SC.out (by have := EN.out; omega) _ _ _ _ (bytesOf x) (bytesOf_length x).symm FC.out CC.out _ HD.out).mono ?_
                rintro e' wd ⟨rfl, F4, hS, hW⟩
                have SD := Aside0.mk hS
                have BD := Aside0.mk (BC.out.trans ((SC.out.then (Below.refl _ _) hW).mono Xk.out))
                clear hS hW
                go_wp2_with fail
                go_meet
                exact ⟨true, rfl, ⟨_, _, _, _, SD.out, HI.out, by have := EN.out; omega, .inl ⟨rfl, rfl⟩⟩, BD⟩
            case rest =>
              obtain ⟨nn, rfl, XD, BX⟩ := hcut
              clear ES EI EN YB hc
              obtain ⟨F5, S5, n5, t5, hS, hI, hn, ht⟩ := XD.out
              obtain ⟨S6, hg1, hI6⟩ := others_get hI
              obtain ⟨S7, hg2, hI7⟩ := others_get2 hI6
              have SX := Aside0.mk hS
              have NX := Aside0.mk hn
              have G1 := Aside0.mk hg1
              have G2 := Aside0.mk hg2
              have I7 := Aside0.mk hI7
              clear hS hI hn hg1 hI6 hg2 hI7 XD
              have HO7 := Aside0.mk (BSt.o_nil I7.out.outs)
              rcases ht with ⟨rfl, rfl⟩ | ⟨rfl, rfl⟩
              · go_wp2_with fail
                refine (sat_get2 SX.out _ _ G1.out).mono ?_
                rintro e' we ⟨A8, c8, rfl, hC, hF, hS, hW⟩
                have SE := Aside0.mk hS
                have BE := Aside0.mk (BX.out.trans ((SX.out.then (Below.refl _ _) hW).mono Xk.out))
                have CE := Aside0.mk (show (Kd.int .u8).C we A8 (bytesOf x).length (bytesOf x) from hC)
                have FE := Aside0.mk (show 0 < (bytesOf x).length → ∀ ad, A8 = some ad → ¬ F5 ad.block from hF)
                clear hC hF hS hW SX BX
                go_wp2_with fail
                refine (sat_get2 SE.out _ _ G2.out).mono ?_
                rintro e' wf ⟨A10, c10, rfl, hC, hF, hS, hW⟩
                have SF := Aside0.mk hS
                have BF := Aside0.mk (BE.out.trans ((SE.out.then (Below.refl _ _) hW).mono Xk.out))
                have CF := Aside0.mk (show (Kd.int .u8).C wf A10 [111].length [111] from hC)
                have FF := Aside0.mk (show 0 < [111].length → ∀ ad, A10 = some ad → ¬ F5 ad.block from hF)
                have CE2 := Aside0.mk (C_chg2 hW.chg FE.out CE.out)
                clear hC hF hS hW SE BE CE
                go_wp2_with fail
                refine (sat_list SF.out (by have := NX.out; omega) 0 HO7.out _ rfl).mono ?_
                rintro e' wg ⟨AL, kL, cL, L, rfl, hk, hK, _, hS, hW⟩
                obtain rfl : kL = 2 := hk.trans (others_len I7.out (hK rfl))
                have SG := Aside0.mk hS
                have BG := Aside0.mk (BF.out.trans ((SF.out.then (Below.refl _ _) hW).mono Xk.out))
                have CG := Aside0.mk (C_chg2 hW.chg FE.out CE2.out)
                have CH := Aside0.mk (C_chg2 hW.chg FF.out CF.out)
                clear hk hK hS hW SF BF CF CE2 FE FF
                have hc := XC.out _ BG.out
                have hcv1 : ∀ m c, (convert 30 9 (.slice A10 1 c)).run Tryd.prog (wg.drewN m) = .ok (.string ⟨#[111]⟩) (wg.drewN m) := fun m c => Kd.C_string (c := c) (P := Tryd.prog) (src := 30) (dst := 9) Tryd.underlying30 Tryd.underlying5 Tryd.underlying9 (Kd.C_below CH.out (pw_below_drewN (Below.refl _ _) m))
                obtain ⟨nb, hnb⟩ : ∃ nb, nb = (bytesOf x).length := ⟨_, rfl⟩
                have XNB := Aside0.mk hnb
                have hcv2 : ∀ m c, (convert 30 9 (.slice A8 nb c)).run Tryd.prog (wg.drewN m) = .ok (.string x) (wg.drewN m) := fun m c => by
                  have h := Kd.C_string (c := c) (P := Tryd.prog) (src := 30) (dst := 9) Tryd.underlying30 Tryd.underlying5 Tryd.underlying9 (Kd.C_below CG.out (pw_below_drewN (Below.refl _ _) m))
                  rw [str_bytes] at h
                  rw [XNB.out]
                  exact h
                have hxx : (x.toList != x.toList) = false := by simp
                simp only [Option.getD_some] at *
                rw [← hnb] at *
                clear hnb
                go_wp2_with fail
                go_quiet (fail)
                go_wp2_with fail
                exact ⟨⟨i + 1, hlt, hlt2, rfl, ⟨_, rfl⟩, ⟨_, _, _, _, SG.out.drewN _, others_next I7.out, NX.out⟩, ⟨BG.out.trans ((pw_below_drewN (Below.refl _ _) _).mono BG.out.size)⟩⟩, HM.out⟩
              · go_wp2_with fail
                refine (sat_get2 SX.out _ _ G1.out).mono ?_
                rintro e' we ⟨A8, c8, rfl, hC, hF, hS, hW⟩
                have SE := Aside0.mk hS
                have BE := Aside0.mk (BX.out.trans ((SX.out.then (Below.refl _ _) hW).mono Xk.out))
                have CE := Aside0.mk (show (Kd.int .u8).C we A8 ([] : List Int).length ([] : List Int) from hC)
                have FE := Aside0.mk (show 0 < ([] : List Int).length → ∀ ad, A8 = some ad → ¬ F5 ad.block from hF)
                clear hC hF hS hW SX BX
                go_wp2_with fail
                refine (sat_get2 SE.out _ _ G2.out).mono ?_
                rintro e' wf ⟨A10, c10, rfl, hC, hF, hS, hW⟩
                have SF := Aside0.mk hS
                have BF := Aside0.mk (BE.out.trans ((SE.out.then (Below.refl _ _) hW).mono Xk.out))
                have CF := Aside0.mk (show (Kd.int .u8).C wf A10 [111].length [111] from hC)
                have FF := Aside0.mk (show 0 < [111].length → ∀ ad, A10 = some ad → ¬ F5 ad.block from hF)
                have CE2 := Aside0.mk (C_chg2 hW.chg FE.out CE.out)
                clear hC hF hS hW SE BE CE
                go_wp2_with fail
                refine (sat_list SF.out (by have := NX.out; omega) 0 HO7.out _ rfl).mono ?_
                rintro e' wg ⟨AL, kL, cL, L, rfl, hk, hK, _, hS, hW⟩
                obtain rfl : kL = 1 := hk.trans (others_len I7.out (hK rfl))
                have SG := Aside0.mk hS
                have BG := Aside0.mk (BF.out.trans ((SF.out.then (Below.refl _ _) hW).mono Xk.out))
                have CG := Aside0.mk (C_chg2 hW.chg FE.out CE2.out)
                have CH := Aside0.mk (C_chg2 hW.chg FF.out CF.out)
                clear hk hK hS hW SF BF CF CE2 FE FF
                have hc := XC.out _ BG.out
                have hcv1 : ∀ m c, (convert 30 9 (.slice A10 1 c)).run Tryd.prog (wg.drewN m) = .ok (.string ⟨#[111]⟩) (wg.drewN m) := fun m c => Kd.C_string (c := c) (P := Tryd.prog) (src := 30) (dst := 9) Tryd.underlying30 Tryd.underlying5 Tryd.underlying9 (Kd.C_below CH.out (pw_below_drewN (Below.refl _ _) m))
                go_wp2_with fail
                go_quiet (fail)
                go_wp2_with fail
                exact ⟨⟨i + 1, hlt, hlt2, rfl, ⟨_, rfl⟩, ⟨_, _, _, _, SG.out.drewN _, others_next I7.out, NX.out⟩, ⟨BG.out.trans ((pw_below_drewN (Below.refl _ _) _).mono BG.out.size)⟩⟩, HM.out⟩
      · obtain rfl : i = 30 := by omega
        go_wp2_with fail
        go_ret
        exact ⟨rfl, YB.out⟩
    · have d1 : decide (i < l0.length) = false := decide_eq_false hlt
      go_wp2_with fail
      go_ret
      exact ⟨rfl, YB.out⟩
end
end Go.Proofs.YtcallfgihohldaaDoor.PA
