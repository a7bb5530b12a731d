import Derived.Test.YtgakjpnfbgmjjaaPAx
import Derived.Deep.RegionHeldLaw
import Derived.Deep.Slices
import Derived.SizedLaws
import Derived.IntWalk
import Derived.ArgAppend
namespace Go.Proofs.Ytgakjpnfbgmjjaa.PA
open Go.RowKit Go.Proofs.YtgakjpnfbgmjjaaW.PrintWords Go.Proofs.YtgakjpnfbgmjjaaW.PrintLast Go.Proofs.YtgakjpnfbgmjjaaW.PrintMore
set_option linter.unusedVariables false
set_option linter.unusedSimpArgs false
/-! ### Arguments opened: a slice of whatever elements, by a kind -/
section
open Go.ChangeShapes Go.WideShapes Go.Deep
variable {H : Type} {enc : TypeId × Value → H} {P : Program} {w : World} {base : Nat} {spare : Nat → Bool} {held : Bool}
theorem ra_addr (a : Addr) (m i : Nat) : (a.add m).add i = a.add (m + i) := Go.Deep.add_add a m i
theorem open_rows {α : Type} [Inhabited α] (k : Kd α) (Wf : α → Prop) {t e : TypeId} {fuel : Nat} {A : Option Addr} {len cap : Nat} {x : DataW H × List MemPlace} (ht : P.underlying t = some (.slice e)) (hce : P.cellsOf e = k.sz)
    (He : ∀ n cs y, DataW.trod enc P w base spare held n e cs = some y → ∃ v, k.K w v cs ∧ Wf v)
    (h : DataW.trod enc P w base spare held fuel t [.slice A len cap] = some x) : ∃ l : List α, l.length = len ∧ k.C w A len l ∧ len ≤ cap ∧ ∀ v ∈ l, Wf v := by
  rcases open_slice ht h with ⟨hcs, _⟩ | ⟨a, l, c, m, n, D, Pl, hcs, _, hl, hm, hmm, _, hx⟩
  · simp at hcs
    obtain ⟨rfl, rfl, rfl⟩ := hcs
    exact ⟨[], rfl, ⟨rfl, by omega, fun h0 => absurd h0 (by omega)⟩, Nat.le_refl _, by simp⟩
  · simp at hcs
    obtain ⟨rfl, rfl, rfl⟩ := hcs
    have hlm : len ≤ m := by rw [hmm]; split <;> omega
    obtain ⟨f, hf⟩ := choose_lt (α := α) (n := len) (p := fun i v => ∃ cs, w.cells? base (a.add (i * k.sz)) k.sz = some cs ∧ k.K w v cs ∧ Wf v) (fun i hi => by
      obtain ⟨cs', h1, h2⟩ := hx i (by omega)
      rw [hce] at h1
      obtain ⟨v, h3, h4⟩ := He _ _ _ h2
      exact ⟨v, cs', h1, h3, h4⟩)
    refine ⟨(List.range len).map f, by simp, ⟨by simp, by simp only [maxLen] at hm; omega, fun _ => ⟨a, rfl, fun j p hj => ?_⟩⟩, hl, fun v hv => ?_⟩
    · have hjl : j < len := by
        rcases Nat.lt_or_ge j len with h' | h'
        · exact h'
        · rw [List.getElem?_eq_none (by simpa using h')] at hj; cases hj
      simp [hjl] at hj
      subst hj
      obtain ⟨cs, h1, h2, _⟩ := hf j hjl
      obtain ⟨_, h3, h4⟩ := World.cells?_some h1
      refine ⟨cs, h3, h2, fun i u hu => ?_⟩
      have hi : i < k.sz := by rw [← h3]; exact (List.getElem?_eq_some_iff.1 hu).1
      rw [← ra_addr, h4 i hi, hu]
    · simp only [List.mem_map, List.mem_range] at hv
      obtain ⟨j, hj, rfl⟩ := hv
      exact (hf j hj).choose_spec.2.2
theorem open_rows_sized {ts : List TypeId} {ds : List (DataW H)} {ps : List MemPlace} {d : DataW H} {j : Nat} {t e : TypeId} {A : Option Addr} {len cap : Nat}
    (hsz : (DataW.weightsEach P ts ds).all (· ≤ reachBytes) = true) (htj : ts[j]? = some t) (hdj : ds[j]? = some d) (ht : P.underlying t = some (.slice e)) {B : Nat} (hB : P.bytesOf e = B)
    (h : DataW.Trod enc P w base spare held t (.slice A len cap) d ps) : len * B ≤ 140737488351232 := by
  obtain ⟨fuel, hf⟩ := h
  rcases open_slice ht hf with ⟨hcs, _⟩ | ⟨a, l, c, m, n, D, Pl, hcs, _, hl, hm, hmm, hx, _⟩
  · simp [Value.cells] at hcs
    obtain ⟨rfl, rfl, rfl⟩ := hcs
    simp
  · simp [Value.cells] at hcs
    obtain ⟨rfl, rfl, rfl⟩ := hcs
    obtain ⟨hx, _⟩ := Prod.mk.inj hx
    subst hx
    have z := sized_slice hsz htj hdj ht
    rw [hB] at z
    have hle : len ≤ m := by rw [hmm]; split <;> omega
    simp only [List.length_map, List.length_range] at z
    have h3 : len ≤ len + (m - len) := by omega
    exact Nat.le_trans (Nat.mul_le_mul_right _ h3) z
end
theorem wpList_append_ran {P : Program} {ops : Array Oper} {rest : List Oper} {o : Oper} {a : Act} {Q : Exit → Act → World → Prop} {w w' : World} (hg : o.guard = none) (s x : Operand) (t : TypeId)
    (hop : o.op = Op.call { callee := Callee.builtin Builtin.append, args := #[s, x], argTypes := #[t, t] }) (v1 v2 v : Value) (hs : a.eval s = v1) (hx : a.eval x = v2)
    (hrun : (Builtin.append_ #[t, t] o.type #[v1, v2]).run P w = .ok v w') (h : wpList P ops Q rest (a.put o.dst v) w') : wpList P ops Q (o :: rest) a w := by
  refine wpList_plain hg fun K hK => ?_
  unfold Oper.wp execOp
  simp only [hop, resolve, invoke, builtin, Sem.run_bind, Sem.run_pure, Result.andThen_ok, List.map_toArray, List.map_cons, List.map_nil, hs, hx, hrun]
  exact hK _ _ h
/-! ### The device, as a value -/
structure FSt where
  secs : List (Option (List Int) × Bool)
  waits : List (Int × List Int)
  off : Bool
  armed : Bool
  left : Int
def FSt.stops (S : FSt) : Bool := S.off || (S.armed && S.left == 0)
def FSt.spent (S : FSt) : FSt := { S with off := S.stops, left := if S.stops then S.left else if S.armed then wrap64 (S.left - 1) else S.left }
def FSt.last (S : FSt) (p : Int × List Int) : FSt := { S with secs := S.secs.set p.1.toNat (some p.2, false) }
def FSt.isIn (S : FSt) (p : Int) : Bool := decide (0 ≤ p) && decide (p < S.secs.length)
def FSt.write (S : FSt) (p : Int) (b : List Int) : FSt × Int :=
  if S.isIn p && b.length == 256 then (if S.stops then (S.spent, 4) else ({ S.spent with waits := S.waits ++ [(p, b)] }, 0)) else (S, 1)
def FSt.lasts (S : FSt) (l : List (Int × List Int)) : FSt := l.foldl FSt.last S
def FSt.flush (S : FSt) : FSt × Int := if S.stops then (S.spent, 4) else ({ S.spent.lasts S.waits with waits := [] }, 0)
def pickI (x : Int) : Int := (wrap64 (x.tmod 3 + 3)).tmod 3
def FSt.picked (S : FSt) (p : Int × List Int) (k : Int) : FSt := if k = 1 then S.last p else if k = 2 then { S with secs := S.secs.set p.1.toNat ((S.secs[p.1.toNat]?.getD (none, false)).1, true) } else S
def FSt.picks (S : FSt) (ks : List Int) : Nat → FSt
  | 0 => S
  | i + 1 => (S.picks ks i).picked (S.waits[i]?.getD (0, [])) (pickI (ks[i]?.getD 0))
def FSt.crash (S : FSt) (ks : List Int) : FSt := { S.picks ks (min S.waits.length ks.length) with waits := [], off := false, armed := false }
def noughts : List Int := List.replicate 256 0
def FSt.found (S : FSt) (p : Int) : Option (Int × List Int) := S.waits.reverse.find? (fun q => q.1 == p)
def FSt.read (S : FSt) (p : Int) : List Int × Int :=
  if S.isIn p then (if S.off then ([], 4) else match S.found p with
    | some q => (q.2, 0)
    | none => if (S.secs[p.toNat]?.getD (none, false)).2 then ([], 3) else ((S.secs[p.toNat]?.getD (none, false)).1.getD noughts, 0)) else ([], 1)
def FSt.new (n : Nat) : FSt := { secs := List.replicate n (none, false), waits := [], off := false, armed := false, left := 0 }
def FSt.arm (S : FSt) (n : Int) : FSt := { S with armed := decide (0 ≤ n), left := n }
/-- All that waits is a sector's. -/
structure FSt.Ok (S : FSt) : Prop where
  n : S.secs.length ≤ 4096
  b : ∀ s ∈ S.secs, ∀ l, s.1 = some l → l.length = 256
  w : ∀ q ∈ S.waits, 0 ≤ q.1 ∧ q.1 < S.secs.length ∧ q.2.length = 256
/-! ### The device in memory -/
def ByteBlk (W : World) (F : Nat → Prop) (v : Value) (b : List Int) : Prop :=
  ∃ q c cs, v = .slice (some ⟨q, 0, none⟩) b.length c ∧ (b.length ≤ c ∧ b.length ≤ 9223372036854775807) ∧ F q ∧ W.heap[q]? = some (.cells cs 5 (0, 0)) ∧ ∀ i (h : i < b.length), cs[i]? = some (.int .u8 b[i])
theorem ByteBlk.move {W W' : World} {F F' : Nat → Prop} {v : Value} {b : List Int} (h : ByteBlk W F v b) (hm : ∀ k cs, F k → W.heap[k]? = some (.cells cs 5 (0, 0)) → W'.heap[k]? = W.heap[k]?) (hF : ∀ k, F k → k < W.heap.size → F' k) : ByteBlk W' F' v b := by
  obtain ⟨q, c, cs, h1, h2, h3, h4, h5⟩ := h
  exact ⟨q, c, cs, h1, h2, hF q h3 (blk_lt h4), (hm q cs h3 h4).trans h4, h5⟩
theorem ByteBlk.reads {W : World} {F : Nat → Prop} {v : Value} {b : List Int} (h : ByteBlk W F v b) : ∃ q c, v = .slice (some ⟨q, 0, none⟩) b.length c ∧ b.length ≤ c ∧ F q ∧ q < W.heap.size ∧ Kd.C (Kd.int .u8) W (some ⟨q, 0, none⟩) b.length b := by
  obtain ⟨q, c, cs, h1, h2, h3, h4, h5⟩ := h
  refine ⟨q, c, h1, h2.1, h3, blk_lt h4, rfl, h2.2, fun _ => ⟨_, rfl, fun j p hj => ⟨[.int .u8 p], rfl, rfl, fun q u hu => ?_⟩⟩⟩
  obtain ⟨hl, rfl⟩ := List.getElem?_eq_some_iff.1 hj
  cases q with
  | zero =>
    simp only [List.getElem?_cons_zero, Option.some.injEq] at hu
    subst hu
    rw [add_plain, blk_cell h4, show j * (Kd.int .u8).sz + 0 = j from Nat.mul_one j]
    exact h5 j hl
  | succ q => simp at hu
def SecAt (W : World) (F : Nat → Prop) (v : Value) (s : Option (List Int)) : Prop :=
  match s with
  | none => v = .slice none 0 0
  | some b => ByteBlk W F v b
structure SecRow (W : World) (F : Nat → Prop) (cs : Array Value) (secs : List (Option (List Int) × Bool)) : Prop where
  size : cs.size = secs.length * 2
  b : ∀ i s, secs[i]? = some s → ∃ v, cs[i * 2]? = some v ∧ SecAt W F v s.1
  t : ∀ i s, secs[i]? = some s → cs[i * 2 + 1]? = some (.bool s.2)
structure WaitRow (W : World) (F : Nat → Prop) (xs : List Value) (waits : List (Int × List Int)) : Prop where
  size : xs.length = waits.length * 2
  p : ∀ i s, waits[i]? = some s → xs[i * 2]? = some (.int .i64 s.1)
  b : ∀ i s, waits[i]? = some s → ∃ v, xs[i * 2 + 1]? = some v ∧ ByteBlk W F v s.2
structure DevAt (W : World) (F : Nat → Prop) (g gs : Nat) (vw : Value) (S : FSt) : Prop where
  fg : F g
  fs : F gs
  hg : W.heap[g]? = some (.cells #[.slice (some ⟨gs, 0, none⟩) S.secs.length S.secs.length, vw, .bool S.off, .bool S.armed, .int .i64 S.left] 61 (0, 0))
  hs : ∃ cs, W.heap[gs]? = some (.cells cs 71 (0, 0)) ∧ SecRow W F cs S.secs
  hw : ∃ xs, W.ownsRow 0 65 2 vw S.waits.length xs ∧ WaitRow W F xs S.waits
  fw : ∀ k, vw.ownBlock = some k → F k
def Dev (W : World) (F : Nat → Prop) (g : Nat) (S : FSt) : Prop := ∃ gs vw, DevAt W F g gs vw S
theorem SecAt.move {W W' : World} {F F' : Nat → Prop} {v : Value} {s : Option (List Int)} (h : SecAt W F v s) (hm : ∀ k cs, F k → W.heap[k]? = some (.cells cs 5 (0, 0)) → W'.heap[k]? = W.heap[k]?) (hF : ∀ k, F k → k < W.heap.size → F' k) : SecAt W' F' v s := by
  cases s with
  | none => exact h
  | some b => exact ByteBlk.move h hm hF
theorem SecRow.move {W W' : World} {F F' : Nat → Prop} {cs : Array Value} {s : List (Option (List Int) × Bool)} (h : SecRow W F cs s) (hm : ∀ k cs, F k → W.heap[k]? = some (.cells cs 5 (0, 0)) → W'.heap[k]? = W.heap[k]?) (hF : ∀ k, F k → k < W.heap.size → F' k) : SecRow W' F' cs s :=
  ⟨h.size, fun i s hi => by obtain ⟨v, h1, h2⟩ := h.b i s hi; exact ⟨v, h1, h2.move hm hF⟩, h.t⟩
theorem WaitRow.move {W W' : World} {F F' : Nat → Prop} {xs : List Value} {s : List (Int × List Int)} (h : WaitRow W F xs s) (hm : ∀ k cs, F k → W.heap[k]? = some (.cells cs 5 (0, 0)) → W'.heap[k]? = W.heap[k]?) (hF : ∀ k, F k → k < W.heap.size → F' k) : WaitRow W' F' xs s :=
  ⟨h.size, h.p, fun i s hi => by obtain ⟨v, h1, h2⟩ := h.b i s hi; exact ⟨v, h1, h2.move hm hF⟩⟩
theorem DevAt.move {W W' : World} {F F' : Nat → Prop} {g gs : Nat} {vw : Value} {S : FSt} (h : DevAt W F g gs vw S) (hm : ∀ k, F k → k < W.heap.size → W'.heap[k]? = W.heap[k]?) (hF : ∀ k, F k → k < W.heap.size → F' k) : DevAt W' F' g gs vw S := by
  have hm' : ∀ k cs, F k → W.heap[k]? = some (.cells cs 5 (0, 0)) → W'.heap[k]? = W.heap[k]? := fun k cs hk hb => hm k hk (blk_lt hb)
  obtain ⟨cs, hs1, hs2⟩ := h.hs
  obtain ⟨xs, hw1, hw2⟩ := h.hw
  exact ⟨hF _ h.fg (blk_lt h.hg), hF _ h.fs (blk_lt hs1), (hm _ h.fg (blk_lt h.hg)).trans h.hg, ⟨cs, (hm _ h.fs (blk_lt hs1)).trans hs1, hs2.move hm' hF⟩, ⟨xs, own_move hw1 (fun k hk => hm k (h.fw k hk) (own_lt hw1 k hk)), hw2.move hm' hF⟩, fun k hk => hF k (h.fw k hk) (own_lt hw1 k hk)⟩
/-- What has turned is the device's alone. -/
structure Chg (F : Nat → Prop) (w w' : World) : Prop where
  os : w'.os = w.os
  tape : w'.tape = w.tape
  output : w'.output = w.output
  size : w.heap.size ≤ w'.heap.size
  block : ∀ k, k < w.heap.size → ¬ F k → w'.heap[k]? = w.heap[k]?
theorem Chg.refl (F : Nat → Prop) (w : World) : Chg F w w := ⟨rfl, rfl, rfl, Nat.le_refl _, fun _ _ _ => rfl⟩
theorem Chg.trans {F : Nat → Prop} {a b c : World} (h : Chg F a b) (k : Chg F b c) : Chg F a c :=
  ⟨k.os.trans h.os, k.tape.trans h.tape, k.output.trans h.output, Nat.le_trans h.size k.size, fun i hi hF => (k.block i (Nat.lt_of_lt_of_le hi h.size) hF).trans (h.block i hi hF)⟩
theorem Chg.of {F : Nat → Prop} {a b : World} (h : Below a.heap.size a b) : Chg F a b := ⟨h.os, h.tape, h.output, h.size, fun k hk _ => h.block k hk⟩
theorem Chg.below {F : Nat → Prop} {a b : World} {B : Nat} (h : Chg F a b) (hB : B ≤ a.heap.size) (hF : ∀ k, F k → B ≤ k) : Below B a b :=
  ⟨h.os, h.tape, h.output, h.size, fun k hk => h.block k (by omega) (fun hf => by have := hF k hf; omega)⟩
theorem Chg.setCell {F : Nat → Prop} {a b : World} (h : Chg F a b) {p : Addr} (hp : F p.block) (u : Value) : Chg F a (b.setCell p u) :=
  ⟨h.os, h.tape, h.output, by simpa [World.setCell] using h.size, fun k hk hF => (Below.heap_setCell b p u k (fun e => hF (e ▸ hp))).trans (h.block k hk hF)⟩
theorem Dev.chg {W W' : World} {F G : Nat → Prop} {g : Nat} {S : FSt} (h : Dev W F g S) (hc : Chg G W W') (hd : ∀ k, F k → ¬ G k) : Dev W' F g S := by
  obtain ⟨gs, vw, h⟩ := h
  exact ⟨gs, vw, h.move (fun k hk hl => hc.block k hl (hd k hk)) (fun _ h _ => h)⟩
theorem Dev.below {W W' : World} {F : Nat → Prop} {g : Nat} {S : FSt} (h : Dev W F g S) (hc : Below W.heap.size W W') : Dev W' F g S := by
  obtain ⟨gs, vw, h⟩ := h
  exact ⟨gs, vw, h.move (fun k _ hl => hc.block k hl) (fun _ h _ => h)⟩
/-- The device's own cells turned. -/
theorem DevAt.head {W W' : World} {F : Nat → Prop} {g gs : Nat} {vw : Value} {S : FSt} (h : DevAt W F g gs vw S) (o a : Bool) (l : Int) (hg : W'.heap[g]? = some (.cells #[.slice (some ⟨gs, 0, none⟩) S.secs.length S.secs.length, vw, .bool o, .bool a, .int .i64 l] 61 (0, 0))) (ho : ∀ k, k ≠ g → W'.heap[k]? = W.heap[k]?) :
    DevAt W' F g gs vw { S with off := o, armed := a, left := l } := by
  have hm' : ∀ k cs, F k → W.heap[k]? = some (.cells cs 5 (0, 0)) → W'.heap[k]? = W.heap[k]? := fun k cs hk hb => ho k (blk_ne hb h.hg (by decide))
  obtain ⟨cs, hs1, hs2⟩ := h.hs
  obtain ⟨xs, hw1, hw2⟩ := h.hw
  refine ⟨h.fg, h.fs, hg, ⟨cs, (ho _ (blk_ne hs1 h.hg (by decide))).trans hs1, hs2.move hm' (fun _ h _ => h)⟩, ⟨xs, own_move hw1 (fun k hk => ho k ?_), hw2.move hm' (fun _ h _ => h)⟩, h.fw⟩
  obtain ⟨c, hc⟩ := own_typed hw1 k hk
  exact blk_ne hc h.hg (by decide)
/-- The cells of the device. -/
theorem DevAt.cells {W : World} {F : Nat → Prop} {g gs : Nat} {vw : Value} {S : FSt} (h : DevAt W F g gs vw S) : W.cell? ⟨g, 0, none⟩ = some (.slice (some ⟨gs, 0, none⟩) S.secs.length S.secs.length) ∧ W.cell? ⟨g, 1, none⟩ = some vw ∧ W.cell? ⟨g, 2, none⟩ = some (.bool S.off) ∧ W.cell? ⟨g, 3, none⟩ = some (.bool S.armed) ∧ W.cell? ⟨g, 4, none⟩ = some (.int .i64 S.left) ∧ ∀ i, W.frozen? ⟨g, i, none⟩ = false :=
  ⟨(blk_cell h.hg 0).trans rfl, (blk_cell h.hg 1).trans rfl, (blk_cell h.hg 2).trans rfl, (blk_cell h.hg 3).trans rfl, (blk_cell h.hg 4).trans rfl, fun i => blk_frozen h.hg i⟩
theorem DevAt.wslice {W : World} {F : Nat → Prop} {g gs : Nat} {vw : Value} {S : FSt} (h : DevAt W F g gs vw S) : ∃ A c, vw = .slice A S.waits.length c ∧ S.waits.length ≤ c := by
  obtain ⟨xs, hw1, _⟩ := h.hw
  rcases hw1.2 with ⟨rfl, h0⟩ | ⟨q, c, cur, rfl, _, _, hc, _⟩
  · exact ⟨_, _, by rw [h0], by omega⟩
  · exact ⟨_, _, rfl, hc⟩
theorem DevAt.set2 {W : World} {F : Nat → Prop} {g gs : Nat} {vw : Value} {S : FSt} (h : DevAt W F g gs vw S) (o : Bool) : DevAt (W.setCell ⟨g, 2, none⟩ (.bool o)) F g gs vw { S with off := o } :=
  h.head o S.armed S.left (heap_setCell_same W g 2 _ 61 (.bool o) h.hg) (fun k hk => Below.heap_setCell W ⟨g, 2, none⟩ _ k hk)
theorem DevAt.set3 {W : World} {F : Nat → Prop} {g gs : Nat} {vw : Value} {S : FSt} (h : DevAt W F g gs vw S) (o : Bool) : DevAt (W.setCell ⟨g, 3, none⟩ (.bool o)) F g gs vw { S with armed := o } :=
  h.head S.off o S.left (heap_setCell_same W g 3 _ 61 (.bool o) h.hg) (fun k hk => Below.heap_setCell W ⟨g, 3, none⟩ _ k hk)
theorem DevAt.set4 {W : World} {F : Nat → Prop} {g gs : Nat} {vw : Value} {S : FSt} (h : DevAt W F g gs vw S) (o : Int) : DevAt (W.setCell ⟨g, 4, none⟩ (.int .i64 o)) F g gs vw { S with left := o } :=
  h.head S.off S.armed o (heap_setCell_same W g 4 _ 61 (.int .i64 o) h.hg) (fun k hk => Below.heap_setCell W ⟨g, 4, none⟩ _ k hk)
/-- What waits is dropped. -/
theorem DevAt.set1 {W : World} {F : Nat → Prop} {g gs : Nat} {vw : Value} {S : FSt} (h : DevAt W F g gs vw S) : DevAt (W.setCell ⟨g, 1, none⟩ (.slice none 0 0)) F g gs (.slice none 0 0) { S with waits := [] } := by
  have ho := fun k hk => Below.heap_setCell W ⟨g, 1, none⟩ (.slice none 0 0) k hk
  have hm' : ∀ k cs, F k → W.heap[k]? = some (.cells cs 5 (0, 0)) → (W.setCell ⟨g, 1, none⟩ (.slice none 0 0)).heap[k]? = W.heap[k]? := fun k cs hk hb => ho k (blk_ne hb h.hg (by decide))
  obtain ⟨cs, hs1, hs2⟩ := h.hs
  exact ⟨h.fg, h.fs, heap_setCell_same W g 1 _ 61 _ h.hg, ⟨cs, (ho _ (blk_ne hs1 h.hg (by decide))).trans hs1, hs2.move hm' (fun _ h _ => h)⟩, ⟨[], World.ownsRow_nil _ _ _ _, ⟨rfl, by simp, by simp⟩⟩, fun k hk => by simp [Value.ownBlock] at hk⟩
theorem DevAt.sec {W W' : World} {F : Nat → Prop} {g gs : Nat} {vw : Value} {S : FSt} (h : DevAt W F g gs vw S) (secs : List (Option (List Int) × Bool)) (hl : secs.length = S.secs.length) (cs' : Array Value) (hs' : W'.heap[gs]? = some (.cells cs' 71 (0, 0))) (ho : ∀ k, k ≠ gs → W'.heap[k]? = W.heap[k]?) (hr : SecRow W F cs' secs) : DevAt W' F g gs vw { S with secs := secs } := by
  obtain ⟨cs, hs1, hs2⟩ := h.hs
  have hm' : ∀ k cs, F k → W.heap[k]? = some (.cells cs 5 (0, 0)) → W'.heap[k]? = W.heap[k]? := fun k cs hk hb => ho k (blk_ne hb hs1 (by decide))
  obtain ⟨xs, hw1, hw2⟩ := h.hw
  refine ⟨h.fg, h.fs, ?_, ⟨cs', hs', hr.move hm' (fun _ h _ => h)⟩, ⟨xs, own_move hw1 (fun k hk => ho k ?_), hw2.move hm' (fun _ h _ => h)⟩, h.fw⟩
  · show W'.heap[g]? = some (.cells #[.slice (some ⟨gs, 0, none⟩) secs.length secs.length, vw, .bool S.off, .bool S.armed, .int .i64 S.left] 61 (0, 0))
    rw [hl, ho g (blk_ne h.hg hs1 (by decide))]
    exact h.hg
  · obtain ⟨c, hc⟩ := own_typed hw1 k hk
    exact blk_ne hc hs1 (by decide)
theorem SecRow.set {W : World} {F : Nat → Prop} {cs : Array Value} {secs : List (Option (List Int) × Bool)} (h : SecRow W F cs secs) (i : Nat) (v : Value) (s : Option (List Int)) (t : Bool) (hv : SecAt W F v s) : SecRow W F ((cs.setIfInBounds (i * 2) v).setIfInBounds (i * 2 + 1) (.bool t)) (secs.set i (s, t)) := by
  refine ⟨by simp [h.size], fun j x hj => ?_, fun j x hj => ?_⟩
  · by_cases e : i = j
    · subst e
      have hl : i < secs.length := by have := (List.getElem?_eq_some_iff.1 hj).1; simpa using this
      rw [List.getElem?_set_self hl, Option.some.injEq] at hj
      subst hj
      refine ⟨v, ?_, hv⟩
      rw [Array.getElem?_setIfInBounds_ne (by omega), Array.getElem?_setIfInBounds_self_of_lt (by rw [h.size]; omega)]
    · rw [List.getElem?_set_ne e] at hj
      rw [Array.getElem?_setIfInBounds_ne (by omega), Array.getElem?_setIfInBounds_ne (by omega)]
      exact h.b j x hj
  · by_cases e : i = j
    · subst e
      have hl : i < secs.length := by have := (List.getElem?_eq_some_iff.1 hj).1; simpa using this
      rw [List.getElem?_set_self hl, Option.some.injEq] at hj
      subst hj
      rw [Array.getElem?_setIfInBounds_self_of_lt (by rw [Array.size_setIfInBounds, h.size]; omega)]
    · rw [List.getElem?_set_ne e] at hj
      rw [Array.getElem?_setIfInBounds_ne (by omega), Array.getElem?_setIfInBounds_ne (by omega)]
      exact h.t j x hj
theorem SecRow.torn {W : World} {F : Nat → Prop} {cs : Array Value} {secs : List (Option (List Int) × Bool)} (h : SecRow W F cs secs) (i : Nat) (t : Bool) : SecRow W F (cs.setIfInBounds (i * 2 + 1) (.bool t)) (secs.set i ((secs[i]?.getD (none, false)).1, t)) := by
  refine ⟨by simp [h.size], fun j x hj => ?_, fun j x hj => ?_⟩
  · rw [Array.getElem?_setIfInBounds_ne (by omega)]
    by_cases e : i = j
    · subst e
      have hl : i < secs.length := by have := (List.getElem?_eq_some_iff.1 hj).1; simpa using this
      rw [List.getElem?_set_self hl, Option.some.injEq] at hj
      subst hj
      have := h.b i _ (List.getElem?_eq_getElem hl)
      rw [List.getElem?_eq_getElem hl]
      exact this
    · rw [List.getElem?_set_ne e] at hj
      exact h.b j x hj
  · by_cases e : i = j
    · subst e
      have hl : i < secs.length := by have := (List.getElem?_eq_some_iff.1 hj).1; simpa using this
      rw [List.getElem?_set_self hl, Option.some.injEq] at hj
      subst hj
      rw [Array.getElem?_setIfInBounds_self_of_lt (by rw [h.size]; omega)]
    · rw [List.getElem?_set_ne e] at hj
      rw [Array.getElem?_setIfInBounds_ne (by omega)]
      exact h.t j x hj
theorem DevAt.setSec {W : World} {F : Nat → Prop} {g gs : Nat} {vw : Value} {S : FSt} (h : DevAt W F g gs vw S) (i : Nat) (v : Value) (s : Option (List Int)) (t : Bool) (hv : SecAt W F v s) :
    DevAt ((W.setCell ⟨gs, i * 2, none⟩ v).setCell ⟨gs, i * 2 + 1, none⟩ (.bool t)) F g gs vw { S with secs := S.secs.set i (s, t) } := by
  obtain ⟨cs, hs1, hs2⟩ := h.hs
  exact h.sec _ (by simp) _ (heap_setCell_same _ gs (i * 2 + 1) _ 71 _ (heap_setCell_same W gs (i * 2) _ 71 v hs1)) (fun k hk => (Below.heap_setCell _ ⟨gs, i * 2 + 1, none⟩ _ k hk).trans (Below.heap_setCell W ⟨gs, i * 2, none⟩ _ k hk)) (hs2.set i v s t hv)
theorem DevAt.setTorn {W : World} {F : Nat → Prop} {g gs : Nat} {vw : Value} {S : FSt} (h : DevAt W F g gs vw S) (i : Nat) (t : Bool) :
    DevAt (W.setCell ⟨gs, i * 2 + 1, none⟩ (.bool t)) F g gs vw { S with secs := S.secs.set i ((S.secs[i]?.getD (none, false)).1, t) } := by
  obtain ⟨cs, hs1, hs2⟩ := h.hs
  exact h.sec _ (by simp) _ (heap_setCell_same W gs (i * 2 + 1) _ 71 _ hs1) (fun k hk => Below.heap_setCell _ ⟨gs, i * 2 + 1, none⟩ _ k hk) (hs2.torn i t)
/-- A sector's two cells. -/
theorem DevAt.secCells {W : World} {F : Nat → Prop} {g gs : Nat} {vw : Value} {S : FSt} (h : DevAt W F g gs vw S) (i : Nat) (hi : i < S.secs.length) :
    (∃ v, W.cell? ⟨gs, i * 2, none⟩ = some v ∧ SecAt W F v (S.secs[i]?.getD (none, false)).1) ∧ W.cell? ⟨gs, i * 2 + 1, none⟩ = some (.bool (S.secs[i]?.getD (none, false)).2) ∧ W.frozen? ⟨gs, i * 2, none⟩ = false ∧ W.frozen? ⟨gs, i * 2 + 1, none⟩ = false := by
  obtain ⟨cs, hs1, hs2⟩ := h.hs
  have he := List.getElem?_eq_getElem hi
  obtain ⟨v, h1, h2⟩ := hs2.b i _ he
  rw [he]
  exact ⟨⟨v, (blk_cell hs1 _).trans h1, h2⟩, (blk_cell hs1 _).trans (hs2.t i _ he), blk_frozen hs1 _, blk_frozen hs1 _⟩
/-- The cells of a write that waits. -/
theorem DevAt.waitCells {W : World} {F : Nat → Prop} {g gs : Nat} {vw : Value} {S : FSt} (h : DevAt W F g gs vw S) (i : Nat) (hi : i < S.waits.length) :
    ∃ q c v, vw = .slice (some ⟨q, 0, none⟩) S.waits.length c ∧ W.cell? ⟨q, i * 2, none⟩ = some (.int .i64 S.waits[i].1) ∧ W.cell? ⟨q, i * 2 + 1, none⟩ = some v ∧ ByteBlk W F v S.waits[i].2 := by
  obtain ⟨xs, hw1, hw2⟩ := h.hw
  have he := List.getElem?_eq_getElem hi
  obtain ⟨v, h1, h2⟩ := hw2.b i _ he
  have h3 := hw2.p i _ he
  rcases hw1.2 with ⟨rfl, h0⟩ | ⟨q, c, cur, rfl, _, hq, hc, _, hcs, ht⟩
  · omega
  · have hx : ∀ j u, xs[j]? = some u → cur[j]? = some u := fun j u hu => by
      rw [← ht, List.getElem?_take] at hu
      split at hu
      · rw [← Array.getElem?_toList]; exact hu
      · cases hu
    exact ⟨q, c, v, rfl, (blk_cell hq _).trans (hx _ _ h3), (blk_cell hq _).trans (hx _ _ h1), h2⟩
/-- An append onto a row of one's own; the row behind is the old one's or a new one. -/
theorem run_append_own2 {P : Program} (w : World) (base : Nat) (t ty e : TypeId) (i : TypeInfo) (z : Value) (size bytes : Nat) (ht : P.underlying t = some (.slice e)) (hi : P.info? e = some i) (hz : i.zero = some z)
    (hsize : i.size = size) (hby : i.bytes = bytes) (hzs : z.cells.size = size) (hsz : 0 < size)
    (v : Value) (n : Nat) (xs : List Value) (hown : w.ownsRow base e size v n xs)
    (a : Addr) (m c : Nat) (news : List Value) (hl : news.length = m * size) (hnews : ∀ j u, news[j]? = some u → w.cell? (a.add j) = some u) (h1 : ∀ u ∈ news, u.oneCell' = true) (hm : 0 < m)
    (h63 : n + m ≤ maxLen) (hbytes : (n + m) * bytes ≤ 140737488355328) (hbase : base ≤ w.heap.size) :
    ∃ v' w', (Builtin.append_ #[t, t] ty #[v, .slice (some a) m c]).run P w = .ok v' w' ∧ w'.ownsRow base e size v' (n + m) (xs ++ news) ∧ w.grownBy w' v.ownBlock ∧ ∀ k, v'.ownBlock = some k → v.ownBlock = some k ∨ w.heap.size ≤ k := by
  obtain ⟨v', w', hr, ho, hg, _⟩ := run_append_own (P := P) w base t ty e i z size bytes ht hi hz hsize hby hzs hsz v n xs hown a m c news hl hnews h1 h63 hbytes hbase
  refine ⟨v', w', hr, ho, hg, ?_⟩
  subst hsize
  subst hby
  have hsmall : n + m ≤ 9223372036854775807 := by simp only [maxLen] at h63; omega
  rcases hown.2 with ⟨rfl, rfl⟩ | ⟨g, cap, cur, rfl, hbg, hgb, hnc, hcm, hcs, htake⟩
  · have h2 := run_append_nil (P := P) w t ty e i z ht hi hz a m c news hl hnews hm (by omega) (by rw [Nat.zero_add] at hbytes; omega)
    rw [hr] at h2
    injection h2 with h2 _
    subst h2
    intro k hk
    simp only [Value.ownBlock, Option.some.injEq] at hk
    exact .inr (by omega)
  · by_cases hroom : n + m ≤ cap
    · have hfit : n * i.size + news.length ≤ cur.size := by rw [hl, hcs, ← Nat.add_mul]; exact Nat.mul_le_mul_right _ hroom
      have h2 := run_append_room (P := P) w t ty e i ht hi g n cap cur hgb a m c news hl hnews h1 hroom hfit
      rw [hr] at h2
      injection h2 with h2 _
      subst h2
      exact fun k hk => .inl hk
    · have holds : ∀ j u, xs[j]? = some u → w.cell? ((⟨g, 0, none⟩ : Addr).add j) = some u := hown.cells (g := g) rfl
      have h2 := run_append_grow (P := P) w t ty e i z ht hi hz ⟨g, 0, none⟩ n cap xs hown.1 holds a m c news hl hnews (by omega) (by omega) (growslice_fits (by omega) hbytes)
      rw [hr] at h2
      injection h2 with h2 _
      subst h2
      intro k hk
      simp only [Value.ownBlock, Option.some.injEq] at hk
      exact .inr (by omega)
end Go.Proofs.Ytgakjpnfbgmjjaa.PA
