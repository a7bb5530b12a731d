import Derived.Test.YtgakjpnfbgmjjaaR7
import Derived.RangeFuncBox
import Derived.RangeFuncLeaves
import Derived.RangeFuncNested
import Derived.RangeFuncBound
import Derived.RangeFuncCalls
import Derived.Shelf.Abstract
import Derived.WalkKit
import Derived.OwnWalkIn
import Derived.TacticsInMore
import Derived.LoopNIn
import Derived.LoopIn
import Derived.Deep.Slices
import Derived.SizedLaws
import Derived.IntWalk
import Derived.ArgAppend
namespace Go.Proofs.Ytgakjpnfbgmjjaa.PA
open Go.RowKit Go.Proofs.YtgakjpnfbgmjjaaW.PrintWords Go.Proofs.YtgakjpnfbgmjjaaW.PrintLast Go.Proofs.YtgakjpnfbgmjjaaW.PrintMore
set_option linter.unusedVariables false
set_option linter.unusedSimpArgs false
/-! ### Two devices side by side -/
def DT (W : World) (k : Nat) : Prop := ∃ cs t, W.heap[k]? = some (.cells cs t (0, 0)) ∧ (t = 61 ∨ t = 71 ∨ t = 65 ∨ t = 5)
def RT (W : World) (k : Nat) : Prop := ∃ cs t, W.heap[k]? = some (.cells cs t (0, 0)) ∧ (t = 55 ∨ t = 9 ∨ t = 4 ∨ t = 78)
theorem DT.not_RT {W : World} {k : Nat} (h : DT W k) : ¬ RT W k := by
  rintro ⟨cs', t', h1, h2⟩
  obtain ⟨cs, t, h3, h4⟩ := h
  rw [h3] at h1
  simp only [Option.some.injEq, Obj.cells.injEq] at h1
  obtain ⟨_, rfl, _⟩ := h1
  rcases h2 with rfl | rfl | rfl | rfl <;> exact absurd h4 (by decide)
theorem ByteBlk.typed {W : World} {F : Nat → Prop} {v : Value} {b : List Int} (h : ByteBlk W F v b) : ByteBlk W (fun k => F k ∧ DT W k) v b := by
  obtain ⟨q, c, cs, h1, h2, h3, h4, h5⟩ := h
  exact ⟨q, c, cs, h1, h2, ⟨h3, cs, 5, h4, by decide⟩, h4, h5⟩
theorem Dev.typed {W : World} {F : Nat → Prop} {g : Nat} {S : FSt} (h : Dev W F g S) : Dev W (fun k => F k ∧ DT W k) g S := by
  obtain ⟨gs, vw, h⟩ := h
  obtain ⟨cs, hs1, hs2⟩ := h.hs
  obtain ⟨xs, hw1, hw2⟩ := h.hw
  refine ⟨gs, vw, ⟨h.fg, _, 61, h.hg, by decide⟩, ⟨h.fs, _, 71, hs1, by decide⟩, h.hg, ⟨cs, hs1, hs2.size, fun i s hi => ?_, hs2.t⟩, ⟨xs, hw1, hw2.size, hw2.p, fun i s hi => ?_⟩, fun k hk => ⟨h.fw k hk, ?_⟩⟩
  · obtain ⟨v, a, b⟩ := hs2.b i s hi
    refine ⟨v, a, ?_⟩
    obtain ⟨s1, s2⟩ := s
    cases s1 with
    | none => exact b
    | some bb => exact ByteBlk.typed b
  · obtain ⟨v, a, b⟩ := hw2.b i s hi
    exact ⟨v, a, b.typed⟩
  · obtain ⟨c, hc⟩ := own_typed hw1 k hk
    exact ⟨c, 65, hc, by decide⟩
theorem RDev.typed {W : World} {G : Nat → Prop} {r : Nat} {S : FSt} (h : RDev W G r S) : RDev W (fun k => G k ∧ RT W k) r S := by
  obtain ⟨vl, vt, vw, h⟩ := h
  refine ⟨vl, vt, vw, ⟨h.gr, _, 55, h.hr, by decide⟩, h.hr, ⟨?_, ?_, ?_⟩⟩
  · refine Kd.R_mono (Kd.R_bound h.rows.hl) (fun k hk => ⟨hk.1, ?_⟩)
    obtain ⟨_, _, _, q, hq, cells, hc⟩ := hk
    simp [Kd.string, Kd.scalar] at hq
    subst hq
    exact ⟨cells, 9, hc, by decide⟩
  · refine Kd.R_mono (Kd.R_bound h.rows.ht) (fun k hk => ⟨hk.1, ?_⟩)
    obtain ⟨_, _, _, q, hq, cells, hc⟩ := hk
    simp [Kd.bool, Kd.scalar] at hq
    subst hq
    exact ⟨cells, 4, hc, by decide⟩
  · refine Kd.R_mono (Kd.R_bound h.rows.hw) (fun k hk => ⟨hk.1, ?_⟩)
    obtain ⟨_, _, _, q, hq, cells, hc⟩ := hk
    have hq' : q = 78 := by revert hq; revert q; intro q; simp [k78, Kd.iso, Kd.pair, Kd.int, Kd.string, Kd.scalar]
    subst hq'
    exact ⟨cells, 78, hc, by decide⟩
theorem Dev.mono {W W' : World} {F F' : Nat → Prop} {g : Nat} {S : FSt} (h : Dev W F g S) (hm : ∀ k, F k → k < W.heap.size → W'.heap[k]? = W.heap[k]?) (hF : ∀ k, F k → k < W.heap.size → F' k) : Dev W' F' g S := by
  obtain ⟨gs, vw, h⟩ := h
  exact ⟨gs, vw, h.move hm hF⟩
theorem RDev.mono {W W' : World} {F F' : Nat → Prop} {r : Nat} {S : FSt} (h : RDev W F r S) (hm : ∀ k, F k → k < W.heap.size → W'.heap[k]? = W.heap[k]?) (hF : ∀ k, F k → k < W.heap.size → F' k) : RDev W' F' r S := by
  obtain ⟨vl, vt, vw, h⟩ := h
  exact ⟨vl, vt, vw, h.move hm hF⟩
structure Two (W : World) (P : Nat → Prop) (g r : Nat) (S R : FSt) : Prop where
  d : Dev W P g S
  w : RDev W P r R
  b : ∀ k, W.heap.size ≤ k → P k
def DF (W : World) (P : Nat → Prop) (k : Nat) : Prop := P k ∧ (W.heap.size ≤ k ∨ DT W k)
def RF (W : World) (P : Nat → Prop) (k : Nat) : Prop := P k ∧ (W.heap.size ≤ k ∨ RT W k)
theorem Two.move {W W' : World} {P P' : Nat → Prop} {g r : Nat} {S R : FSt} (h : Two W P g r S R) (hm : ∀ k, P k → k < W.heap.size → W'.heap[k]? = W.heap[k]?) (hP : ∀ k, P k → k < W.heap.size → P' k) (hb : ∀ k, W'.heap.size ≤ k → P' k) : Two W' P' g r S R :=
  ⟨h.d.mono hm hP, h.w.mono hm hP, hb⟩
theorem Two.below {W W' : World} {P : Nat → Prop} {g r : Nat} {S R : FSt} (h : Two W P g r S R) (hb : Below W.heap.size W W') : Two W' P g r S R :=
  h.move (fun k _ hl => hb.block k hl) (fun _ h _ => h) (fun k hk => h.b k (Nat.le_trans hb.size hk))
theorem Two.df {W : World} {P : Nat → Prop} {g r : Nat} {S R : FSt} (h : Two W P g r S R) : Dev W (DF W P) g S := h.d.typed.mono (fun _ _ _ => rfl) (fun k hk _ => ⟨hk.1, .inr hk.2⟩)
theorem Two.rf {W : World} {P : Nat → Prop} {g r : Nat} {S R : FSt} (h : Two W P g r S R) : RDev W (RF W P) r R := h.w.typed.mono (fun _ _ _ => rfl) (fun k hk _ => ⟨hk.1, .inr hk.2⟩)
theorem Two.dfr {W : World} {P : Nat → Prop} {g r : Nat} {S R : FSt} (h : Two W P g r S R) : ∀ k, W.heap.size ≤ k → DF W P k := fun k hk => ⟨h.b k hk, .inl hk⟩
theorem Two.rfr {W : World} {P : Nat → Prop} {g r : Nat} {S R : FSt} (h : Two W P g r S R) : ∀ k, W.heap.size ≤ k → RF W P k := fun k hk => ⟨h.b k hk, .inl hk⟩
/-- What is of neither device stays. -/
structure Keep2 (W W' : World) (P : Nat → Prop) : Prop where
  chg : Chg P W W'
  other : ∀ (k : Nat) (cs : Array Value) (t : TypeId), W.heap[k]? = some (Obj.cells cs t (0, 0)) → t ≠ 61 → t ≠ 71 → t ≠ 65 → t ≠ 5 → t ≠ 55 → t ≠ 9 → t ≠ 4 → t ≠ 78 → W'.heap[k]? = W.heap[k]?
theorem Keep2.box {W W' : World} {P : Nat → Prop} (h : Keep2 W W' P) {k : Nat} {cs : Array Value} (hk : W.heap[k]? = some (Obj.cells cs 44 (0, 0))) : W'.heap[k]? = some (Obj.cells cs 44 (0, 0)) :=
  (h.other k cs 44 hk (by decide) (by decide) (by decide) (by decide) (by decide) (by decide) (by decide) (by decide)).trans hk
theorem Keep2.below {W W' : World} {P : Nat → Prop} {B : Nat} (h : Keep2 W W' P) (hB : B ≤ W.heap.size) (hP : ∀ k, P k → B ≤ k) : Below B W W' := h.chg.below hB hP
theorem Two.afterD {W W' : World} {P : Nat → Prop} {g r : Nat} {S S' R : FSt} (h : Two W P g r S R) (hd : Dev W' (DF W P) g S') (hc : Chg (DF W P) W W') : Two W' P g r S' R ∧ Keep2 W W' P := by
  refine ⟨⟨hd.mono (fun _ _ _ => rfl) (fun k hk _ => hk.1), h.w.typed.mono (fun k hk hl => hc.block k hl (fun hf => ?_)) (fun k hk _ => hk.1), fun k hk => h.b k (Nat.le_trans hc.size hk)⟩, ⟨hc.os, hc.tape, hc.output, hc.size, fun k hk hn => hc.block k hk (fun hf => hn hf.1)⟩, fun k cs t hk a b c d _ _ _ _ => hc.block k (blk_lt hk) (fun hf => ?_)⟩
  · rcases hf.2 with h1 | h1
    · omega
    · exact h1.not_RT hk.2
  · rcases hf.2 with h1 | ⟨cs', t', h1, h2⟩
    · have := blk_lt hk; omega
    · rw [hk] at h1
      simp only [Option.some.injEq, Obj.cells.injEq] at h1
      obtain ⟨_, rfl, _⟩ := h1
      rcases h2 with h2 | h2 | h2 | h2 <;> contradiction
theorem Two.afterR {W W' : World} {P : Nat → Prop} {g r : Nat} {S R R' : FSt} (h : Two W P g r S R) (hd : RDev W' (RF W P) r R') (hc : Chg (RF W P) W W') : Two W' P g r S R' ∧ Keep2 W W' P := by
  refine ⟨⟨h.d.typed.mono (fun k hk hl => hc.block k hl (fun hf => ?_)) (fun k hk _ => hk.1), hd.mono (fun _ _ _ => rfl) (fun k hk _ => hk.1), fun k hk => h.b k (Nat.le_trans hc.size hk)⟩, ⟨hc.os, hc.tape, hc.output, hc.size, fun k hk hn => hc.block k hk (fun hf => hn hf.1)⟩, fun k cs t hk _ _ _ _ a b c d => hc.block k (blk_lt hk) (fun hf => ?_)⟩
  · rcases hf.2 with h1 | h1
    · omega
    · exact hk.2.not_RT h1
  · rcases hf.2 with h1 | ⟨cs', t', h1, h2⟩
    · have := blk_lt hk; omega
    · rw [hk] at h1
      simp only [Option.some.injEq, Obj.cells.injEq] at h1
      obtain ⟨_, rfl, _⟩ := h1
      rcases h2 with h2 | h2 | h2 | h2 <;> contradiction
/-! ### Contents are bytes -/
def byteOk (l : List Int) : Prop := ∀ v ∈ l, 0 ≤ v ∧ v < 256
theorem byteOk.set {l : List Int} (h : byteOk l) (i : Nat) (x : Int) (hx : 0 ≤ x ∧ x < 256) : byteOk (l.set i x) := fun v hv => by
  rcases List.mem_or_eq_of_mem_set hv with h1 | rfl
  · exact h v h1
  · exact hx
theorem bytes_l0_ok (x0 : Int) (r : List Int) : ∀ (k : Nat) (x5 : List Int) (i : Int), byteOk x5 → cisternlaw01_bytes.l0 k x0 x5 i = some r → byteOk r
  | 0, x5, i, _, h => by simp [cisternlaw01_bytes.l0] at h
  | k + 1, x5, i, h5, h => by
    have m1 : 0 ≤ x0 % 256 ∧ x0 % 256 < 256 := by omega
    have m2 : ∀ y : Int, 0 ≤ y % 256 ∧ y % 256 < 256 := fun y => by omega
    rw [cisternlaw01_bytes.l0] at h
    split at h
    · split at h
      · exact bytes_l0_ok x0 r k _ _ (h5.set _ _ m1) h
      · cases h
    · split at h
      · split at h
        · simp only [Option.some.injEq] at h
          subst h
          exact (h5.set _ _ (m2 _)).set _ _ (m2 _)
        · cases h
      · simp only [Option.some.injEq] at h
        subst h
        exact h5
theorem bytesL_ok (x a : Int) : byteOk (bytesL x a) := by
  have h := (bytes_val x a).1
  unfold cisternlaw01_bytes.f at h
  split at h
  · split at h
    · exact bytes_l0_ok x _ 1000 _ _ (fun v hv => by have := List.eq_of_mem_replicate hv; omega) h
    · cases h
  · cases h
structure FSt.Byt (S : FSt) : Prop where
  s : ∀ s ∈ S.secs, ∀ l, s.1 = some l → byteOk l
  w : ∀ q ∈ S.waits, byteOk q.2
theorem FSt.Byt.spent {S : FSt} (h : S.Byt) : S.spent.Byt := ⟨h.s, h.w⟩
theorem FSt.Byt.arm {S : FSt} (h : S.Byt) (n : Int) : (S.arm n).Byt := ⟨h.s, h.w⟩
theorem FSt.Byt.new (n : Nat) : (FSt.new n).Byt := ⟨by simp [FSt.new], by simp [FSt.new]⟩
theorem FSt.Byt.last {S : FSt} (h : S.Byt) (p : Int × List Int) (hp : byteOk p.2) : (S.last p).Byt := by
  refine ⟨fun s hs l hl => ?_, h.w⟩
  rcases List.mem_or_eq_of_mem_set hs with h1 | rfl
  · exact h.s s h1 l hl
  · simp only [Option.some.injEq] at hl
    rw [← hl]; exact hp
theorem FSt.Byt.lasts (l : List (Int × List Int)) : ∀ {S : FSt}, S.Byt → (∀ q ∈ l, byteOk q.2) → (S.lasts l).Byt := by
  induction l with
  | nil => intro S h _; exact h
  | cons p l ih => intro S h hl; exact ih (h.last p (hl p (by simp))) (fun q hq => hl q (by simp [hq]))
theorem FSt.Byt.flush {S : FSt} (h : S.Byt) : S.flush.1.Byt := by
  unfold FSt.flush
  split
  · exact h.spent
  · have := FSt.Byt.lasts S.waits h.spent h.w
    exact ⟨this.s, by simp⟩
theorem FSt.Byt.write {S : FSt} (h : S.Byt) (p : Int) (b : List Int) (hb : byteOk b) : (S.write p b).1.Byt := by
  unfold FSt.write
  split
  · split
    · exact h.spent
    · refine ⟨h.s, fun q hq => ?_⟩
      rcases List.mem_append.1 hq with h1 | h1
      · exact h.w q h1
      · simp only [List.mem_singleton] at h1
        subst h1
        exact hb
  · exact h
theorem FSt.Byt.picks {S : FSt} (h : S.Byt) (ks : List Int) : ∀ i, (S.picks ks i).Byt
  | 0 => h
  | i + 1 => by
    have ih := FSt.Byt.picks h ks i
    have hq : byteOk (S.waits[i]?.getD (0, [])).2 := by
      by_cases hi : i < S.waits.length
      · rw [List.getElem?_eq_getElem hi]; exact h.w _ (List.getElem_mem hi)
      · rw [List.getElem?_eq_none (by omega)]; intro v hv; simp at hv
    rw [FSt.picks]
    unfold FSt.picked
    split
    · exact ih.last _ hq
    · split
      · refine ⟨fun s hs l hl => ?_, ih.w⟩
        rcases List.mem_or_eq_of_mem_set hs with h1 | rfl
        · exact ih.s s h1 l hl
        · by_cases hlt : (S.waits[i]?.getD (0, [])).1.toNat < (S.picks ks i).secs.length
          · rw [List.getElem?_eq_getElem hlt] at hl
            exact ih.s _ (List.getElem_mem hlt) l hl
          · rw [List.getElem?_eq_none (by omega)] at hl
            cases hl
      · exact ih
theorem FSt.Byt.crash {S : FSt} (h : S.Byt) (ks : List Int) : (S.crash ks).Byt := ⟨(h.picks ks _).s, by simp [FSt.crash]⟩
theorem FSt.Byt.read {S : FSt} (h : S.Byt) (p : Int) : byteOk (S.read p).1 := by
  have h0 : byteOk noughts := fun v hv => by have := List.eq_of_mem_replicate hv; omega
  have hn : byteOk ([] : List Int) := fun v hv => by simp at hv
  unfold FSt.read
  split
  · split
    · exact hn
    · split
      · rename_i q hq
        exact h.w q (List.mem_reverse.1 (List.mem_of_find?_eq_some hq))
      · split
        · exact hn
        · show byteOk ((S.secs[p.toNat]?.getD (none, false)).1.getD noughts)
          by_cases hlt : p.toNat < S.secs.length
          · rw [List.getElem?_eq_getElem hlt]
            simp only [Option.getD_some]
            cases hs : S.secs[p.toNat].1 with
            | none => exact h0
            | some l => exact h.s _ (List.getElem_mem hlt) l hs
          · rw [List.getElem?_eq_none (by omega)]
            exact h0
  · exact hn
/-! ### The count -/
theorem FSt.lasts_left' (l : List (Int × List Int)) : ∀ S : FSt, (S.lasts l).left = S.left := by
  induction l with
  | nil => intro S; rfl
  | cons p l ih => intro S; exact (ih (S.last p)).trans rfl
theorem FSt.Cnt.new (n : Nat) : (FSt.new n).Cnt := fun h => by simp [FSt.new] at h
theorem FSt.Cnt.arm {S : FSt} (n : Int) (hn : n ≤ 9223372036854775807) : (S.arm n).Cnt := fun h => by
  simp only [FSt.arm, decide_eq_true_eq] at h ⊢
  exact ⟨h, hn⟩
theorem FSt.Cnt.spent {S : FSt} (h : S.Cnt) : S.spent.Cnt := fun ha => by
  have h1 := h ha
  show 0 ≤ (if S.stops then S.left else if S.armed then wrap64 (S.left - 1) else S.left) ∧ _ ≤ _
  have ha' : S.armed = true := ha
  by_cases hs : S.stops = true
  · show 0 ≤ (if S.stops then S.left else if S.armed then wrap64 (S.left - 1) else S.left) ∧ (if S.stops then S.left else if S.armed then wrap64 (S.left - 1) else S.left) ≤ _
    rw [if_pos hs]; exact h1
  · show 0 ≤ (if S.stops then S.left else if S.armed then wrap64 (S.left - 1) else S.left) ∧ (if S.stops then S.left else if S.armed then wrap64 (S.left - 1) else S.left) ≤ _
    rw [if_neg hs, if_pos ha']
    have hz : S.left ≠ 0 := fun e => hs (by unfold FSt.stops; rw [ha', e]; simp)
    unfold wrap64
    omega
theorem FSt.Cnt.flush {S : FSt} (h : S.Cnt) : S.flush.1.Cnt := by
  unfold FSt.flush
  split
  · exact h.spent
  · intro ha
    have h1 : (S.spent.lasts S.waits).armed = true := ha
    rw [FSt.lasts_armed] at h1
    have h2 := h.spent h1
    show 0 ≤ (S.spent.lasts S.waits).left ∧ (S.spent.lasts S.waits).left ≤ _
    rw [FSt.lasts_left']
    exact h2
theorem FSt.Cnt.write {S : FSt} (h : S.Cnt) (p : Int) (b : List Int) : (S.write p b).1.Cnt := by
  unfold FSt.write
  split
  · split
    · exact h.spent
    · exact h.spent
  · exact h
theorem FSt.Cnt.crash {S : FSt} (ks : List Int) : (S.crash ks).Cnt := fun h => by simp [FSt.crash] at h

/-! ### Both devices in one state -/
structure Fit (m j : Nat) (S : FSt) : Prop where
  ok : S.Ok
  cnt : S.Cnt
  byt : S.Byt
  n : S.secs.length = m
  w : S.waits.length ≤ j
theorem FSt.lasts_len' (l : List (Int × List Int)) : ∀ S : FSt, (S.lasts l).secs.length = S.secs.length := by
  induction l with
  | nil => intro S; rfl
  | cons p l ih => intro S; exact (ih (S.last p)).trans (by simp [FSt.last])
theorem FSt.picks_len' (S : FSt) (ks : List Int) : ∀ i, (S.picks ks i).secs.length = S.secs.length
  | 0 => rfl
  | i + 1 => by
    rw [FSt.picks]
    unfold FSt.picked
    split
    · simp [FSt.last, FSt.picks_len' S ks i]
    · split
      · simp [FSt.picks_len' S ks i]
      · exact FSt.picks_len' S ks i
theorem Fit.mono {m j j' : Nat} {S : FSt} (h : Fit m j S) (hj : j ≤ j') : Fit m j' S := ⟨h.ok, h.cnt, h.byt, h.n, Nat.le_trans h.w hj⟩
theorem Fit.new {m : Nat} (h : m ≤ 4096) (j : Nat) : Fit m j (.new m) := ⟨.new h, .new m, .new m, by simp [FSt.new], by simp [FSt.new]⟩
theorem Fit.write {m j : Nat} {S : FSt} (h : Fit m j S) (p : Int) (b : List Int) (hb : byteOk b) : Fit m (j + 1) (S.write p b).1 := ⟨h.ok.write p b, h.cnt.write p b, h.byt.write p b hb, by
  unfold FSt.write
  split
  · split
    · exact h.n
    · exact h.n
  · exact h.n, by
  have := h.w
  unfold FSt.write
  split
  · split
    · show S.waits.length ≤ _; omega
    · show (S.waits ++ [(p, b)]).length ≤ _; simp; omega
  · show S.waits.length ≤ _; omega⟩
theorem Fit.flush {m j : Nat} {S : FSt} (h : Fit m j S) : Fit m j S.flush.1 := ⟨h.ok.flush, h.cnt.flush, h.byt.flush, by
  unfold FSt.flush
  split
  · exact h.n
  · exact (FSt.lasts_len' S.waits S.spent).trans h.n, by
  unfold FSt.flush
  split
  · exact h.w
  · exact Nat.zero_le _⟩
theorem Fit.arm {m j : Nat} {S : FSt} (h : Fit m j S) (n : Int) (hn : n ≤ 9223372036854775807) : Fit m j (S.arm n) := ⟨h.ok.arm n, .arm n hn, h.byt.arm n, h.n, h.w⟩
theorem Fit.crash {m j : Nat} {S : FSt} (h : Fit m j S) (ks : List Int) : Fit m j (S.crash ks) := ⟨h.ok.crash ks, .crash ks, h.byt.crash ks, (FSt.picks_len' S ks _).trans h.n, Nat.zero_le _⟩
theorem Fit.erase {m j : Nat} {S : FSt} (h : Fit m j S) : Fit m j (.new S.secs.length) := by
  have := h.n
  subst this
  exact .new h.ok.n j
def pB (B : Nat) (k : Nat) : Prop := B ≤ k
end Go.Proofs.Ytgakjpnfbgmjjaa.PA
