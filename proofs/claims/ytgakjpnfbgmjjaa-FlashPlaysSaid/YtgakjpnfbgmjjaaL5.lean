import Derived.Test.YtgakjpnfbgmjjaaL4
import Derived.RangeFuncBox
import Derived.RangeFuncLeaves
import Derived.RangeFuncNested
import Derived.RangeFuncBound
import Derived.RangeFuncCalls
import Derived.Shelf.Abstract
import Derived.WalkKit
import Derived.OwnWalkIn
import Derived.TacticsInMore
import Derived.LoopNIn
import Derived.LoopIn
import Derived.Deep.Slices
import Derived.SizedLaws
import Derived.IntWalk
import Derived.ArgAppend
namespace Go.Proofs.Ytgakjpnfbgmjjaa.PA
open Go.RowKit Go.Proofs.YtgakjpnfbgmjjaaW.PrintWords Go.Proofs.YtgakjpnfbgmjjaaW.PrintLast Go.Proofs.YtgakjpnfbgmjjaaW.PrintMore
set_option linter.unusedVariables false
set_option linter.unusedSimpArgs false
/-! ### Read -/
section
attribute [local go_sem] Oper.semAt_some
def RdBlk (W : World) (F : Nat → Prop) (v : Value) (b : List Int) : Prop := (b = [] ∧ v = .slice none 0 0) ∨ (b.length = 256 ∧ ByteBlk W F v b)
theorem Boxed.set {W : World} {B : Nat} {t : TypeId} {v : Value} (h : Boxed W B t v) (u : Value) : Boxed (W.setCell ⟨B, 0, none⟩ u) B t u := heap_setCell_same W B 0 #[v] t u h
theorem Boxed.below {W W' : World} {B : Nat} {t : TypeId} {v : Value} (h : Boxed W B t v) (hb : Below W.heap.size W W') : Boxed W' B t v := (hb.block B h.lt).trans h
theorem res15 {W : World} {tmps : Array Value} {a b : Nat} {A : Option Addr} {l c : Nat} {e : Int} (h4 : tmps.getD 4 undef = .pointer (some ⟨a, 0, none⟩)) (h5 : tmps.getD 5 undef = .pointer (some ⟨b, 0, none⟩)) (c4 : Boxed W a 30 (.slice A l c)) (c5 : Boxed W b 26 (.int .i64 e)) :
    (results Try.f15 tmps).run Try.prog W = .ok (.tuple #[.slice A l c, .int .i64 e]) W := by
  have d4 := c4.cell
  have d5 := c5.cell
  simp only [Array.getD_eq_getD_getElem?] at h4 h5
  simp [results, Try.f15, go_sem, d4, d5, h4, h5]
theorem byteBlk_own {β : Type} (F : Nat → Prop) (v : Value) (b : List Int) : Own (fun (_ : β) W => ByteBlk W F v b) := fun s X Y row hs hg hrow =>
  hs.move (fun k cs _ hk => hg.block k (blk_lt hk) (fun e => by obtain ⟨o, ho, hc⟩ := hrow k e.symm; rw [hk] at ho; cases ho; cases hc)) (fun _ h _ => h)
theorem cells_own {β : Type} (B : Nat) (t : TypeId) (cs : Array Value) : Own (fun (_ : β) W => W.heap[B]? = some (.cells cs t (0, 0))) := fun s X Y row hs hg hrow =>
  (hg.block B (blk_lt hs) (fun e => by obtain ⟨o, ho, hc⟩ := hrow B e.symm; rw [hs] at ho; cases ho; cases hc)).trans hs
theorem fin15 {W Z : World} {D a b : Nat} {tmps : Array Value} {A : Option Addr} {l c : Nat} {e : Int} {bs : List Int} (h4 : tmps.getD 4 undef = .pointer (some ⟨a, 0, none⟩)) (h5 : tmps.getD 5 undef = .pointer (some ⟨b, 0, none⟩)) (hK : Z.heap[D]? = some (.deferred (some []))) (c4 : Boxed Z a 30 (.slice A l c)) (c5 : Boxed Z b 26 (.int .i64 e))
    (hR : RdBlk Z (fun k => W.heap.size ≤ k) (.slice A l c) bs) (hB : Below W.heap.size W Z) (hD : W.heap.size ≤ D) :
    bodyPostM Fence.wide 3 Try.prog Try.f15 (fun e' W' => ∃ v, e' = .returned (.tuple #[v, .int .i64 e]) ∧ RdBlk W' (fun k => W.heap.size ≤ k) v bs ∧ Below W.heap.size W W') Exit.ret { tmps := tmps, defers := [{ target := .collected D, args := #[] }] } Z := by
  have hg := grownBy_putObj' Z D (.deferred none)
  have hr : ∀ r, some D = some r → ∃ o : Obj, Z.heap[r]? = some o ∧ o.isCells = false := fun r e => by cases e; exact ⟨_, hK, rfl⟩
  have Q4 := boxed_own (β := Unit) a 30 (fun _ => _) () _ _ _ c4 hg hr
  have Q5 := boxed_own (β := Unit) b 26 (fun _ => _) () _ _ _ c5 hg hr
  refine ⟨by simp, .inl ⟨_, _, rfl, run_takeDeferred hK, ?_⟩⟩
  refine ⟨_, res15 h4 h5 Q4 Q5, _, rfl, ?_, Below.grown hB hg hB.size (fun k e => by cases e; exact hD)⟩
  rcases hR with h | ⟨h1, h2⟩
  · exact .inl h
  · exact .inr ⟨h1, byteBlk_own (β := Unit) _ _ _ () _ _ _ h2 hg hr⟩
theorem noughts_len : noughts.length = 256 := List.length_replicate
theorem noughts_get (i : Nat) (h : i < noughts.length) : noughts[i] = 0 := List.getElem_replicate ..
theorem noughts_blk {W : World} {F : Nat → Prop} (h : F W.heap.size) : ByteBlk (W.alloc (.cells (madeCells #[.int .u8 0] (256 * 1)) 5)) F (.slice (some ⟨W.heap.size, 0, none⟩) 256 256) noughts := by
  refine ⟨W.heap.size, 256, _, by rw [noughts_len], ⟨by rw [noughts_len]; omega, by rw [noughts_len]; omega⟩, h, heap_alloc_new W _, fun i hi => ?_⟩
  have hi' : i < 256 := by rw [noughts_len] at hi; exact hi
  rw [noughts_get, Array.getElem?_eq_getElem (by rw [size_madeCells]; omega)]
  simp [madeCells, Nat.mod_one]
theorem KeepsOthers.of_below {W W' : World} (h : Below W.heap.size W W') : KeepsOthers W W' := ⟨h.size, fun k o hk _ => (h.block k (Array.getElem?_eq_some_iff.1 hk).1).trans hk⟩
theorem waits_rev {α : Type} (l : List α) : l.reverse = (backL l.length).map (fun x => l[x.1]) := by
  apply List.ext_getElem
  · simp [backL_length]
  · intro i h1 h2
    simp only [List.getElem_reverse, List.getElem_map]
    congr 1
    rw [backL_get]
theorem find_first {α : Type} (P : α → Bool) (ini rest : List α) (x : α) (h : ∀ y ∈ ini, P y = false) (hx : P x = true) : (ini ++ x :: rest).find? P = some x := by
  induction ini with
  | nil => simp [hx]
  | cons y ini ih =>
    rw [List.cons_append, List.find?_cons, h y (by simp)]
    exact ih (fun z hz => h z (by simp [hz]))
theorem found_none (l : List (Int × List Int)) (p : Int) (h : ∀ x ∈ backL l.length, (l[x.1]).1 ≠ p) : l.reverse.find? (fun q => q.1 == p) = none := by
  rw [waits_rev, List.find?_eq_none]
  intro q hq
  obtain ⟨x, hx, rfl⟩ := List.mem_map.1 hq
  simpa using h x hx
theorem found_some (l : List (Int × List Int)) (p : Int) (k : Nat) (ini : List (Fin l.length)) (x : Fin l.length) (hk : (backL l.length).take k = ini ++ [x]) (h : ∀ y ∈ ini, (l[y.1]).1 ≠ p) (hx : (l[x.1]).1 = p) : l.reverse.find? (fun q => q.1 == p) = some l[x.1] := by
  rw [waits_rev, ← List.take_append_drop k (backL l.length), hk, List.append_assoc, List.map_append, List.singleton_append, List.map_cons]
  refine find_first _ _ _ _ (fun y hy => ?_) (by simpa using hx)
  obtain ⟨z, hz, rfl⟩ := List.mem_map.1 hy
  simpa using h z hz
set_option maxRecDepth 100000 in
set_option maxHeartbeats 2000000 in
theorem dev_read {W : World} {F : Nat → Prop} {g : Nat} {S : FSt} (h : Dev W F g S) (hk : S.Ok) (hwl : S.waits.length ≤ 1000000) (p : Int) :
    Calls Try.prog 15 #[.pointer (some ⟨g, 0, none⟩), .int .i64 p] W fun e W' => ∃ v, e = .returned (.tuple #[v, .int .i64 (S.read p).2]) ∧ RdBlk W' (fun k => W.heap.size ≤ k) v (S.read p).1 ∧ Below W.heap.size W W' := by
  obtain ⟨gs, vw, h⟩ := h
  have X := Aside0.mk h
  have K := Aside0.mk hk
  have HN := Aside0.mk hwl
  have X1 := Aside0.mk ((h.move (W' := W.alloc (.cells #[.int .i64 p] 3)) (fun k _ hl => Below.heap_alloc _ _ _ hl) (fun _ h _ => h)))
  have X3 : Aside0 (DevAt (((W.alloc (.cells #[.int .i64 p] 3)).alloc (.cells #[.slice none 0 0] 30)).alloc (.cells #[.int .i64 0] 26)) F g gs vw S) := ⟨(X1.out.move (fun k _ hl => Below.heap_alloc _ _ _ hl) (fun _ h _ => h)).move (fun k _ hl => Below.heap_alloc _ _ _ hl) (fun _ h _ => h)⟩
  clear h hk hwl
  refine (callsIn_wide (n := 3)).1 ?_
  refine callsIn_of_wp_marks Try.func15 rfl trivial ?_ rfl
  simp only [Try.ntmps15, List.size_toArray, List.length_cons, List.length_nil, Nat.reduceAdd, Nat.reduceSub, Array.replicate_succ, Array.replicate_zero, List.push_toArray, List.append_toArray, List.nil_append, List.cons_append]
  gi_wp2
  refine ⟨trivial, (callsIn_wide.2 (dev_is X3.out K.out.n p)).mono ?_⟩
  rintro e w1 ⟨rfl, rfl⟩
  obtain ⟨n, hn⟩ : ∃ n, n = W.heap.size := ⟨_, rfl⟩
  have b3 := ((Boxed.new W 3 (.int .i64 p)).alloc (.cells #[.slice none 0 0] 30)).alloc (.cells #[.int .i64 0] 26)
  have b4 := (Boxed.new (W.alloc (.cells #[.int .i64 p] 3)) 30 (.slice none 0 0)).alloc (.cells #[.int .i64 0] 26)
  have b5 := Boxed.new ((W.alloc (.cells #[.int .i64 p] 3)).alloc (.cells #[.slice none 0 0] 30)) 26 (.int .i64 0)
  have hB3 := ((Below.refl W.heap.size W).alloc (Nat.le_refl _) (.cells #[.int .i64 p] 3)).alloc (by simp) (.cells #[.slice none 0 0] 30) |>.alloc (by simp; omega) (.cells #[.int .i64 0] 26)
  have hsz : (((W.alloc (.cells #[.int .i64 p] 3)).alloc (.cells #[.slice none 0 0] 30)).alloc (.cells #[.int .i64 0] 26)).heap.size = n + 3 := by simp [hn]
  simp only [World.size_alloc, ← hn] at b3 b4 b5
  obtain ⟨W3, hW3⟩ : ∃ W3, ((W.alloc (.cells #[.int .i64 p] 3)).alloc (.cells #[.slice none 0 0] 30)).alloc (.cells #[.int .i64 0] 26) = W3 := ⟨_, rfl⟩
  rw [hW3] at X3 b3 b4 b5 hB3 hsz ⊢
  rw [← hn]
  have B3 := Aside0.mk hB3
  have c3 := b3.cell
  have f4 := b4.frozen
  have f5 := b5.frozen
  have c4 := b4.cell
  have c5 := b5.cell
  have HN2 := Aside0.mk hn
  clear hW3 X1 hB3 hn
  obtain ⟨y, hy⟩ : ∃ y, y = S.isIn p := ⟨_, rfl⟩
  have HY := Aside0.mk hy
  rw [← hy]
  clear hy
  have DV : Aside0 (∀ W', Below W.heap.size W W' → DevAt W' F g gs vw S) := ⟨fun W' hb => X.out.move (fun k _ hl => hb.block k hl) (fun _ h _ => h)⟩
  cases y with
  | false =>
    have R1 : Aside0 (S.read p = ([], 1)) := ⟨by unfold FSt.read; rw [if_neg (by rw [← HY.out]; decide)]⟩
    have Q4 := Aside0.mk ((b4.set (.slice none 0 0)).other (B' := n + 1 + 1) (by omega) (.int .i64 1))
    have Q5 := Aside0.mk ((b5.other (B' := n + 1) (by omega) (.slice none 0 0)).set (.int .i64 1))
    clear b3 b4 b5
    gi_wp2
    refine ⟨_, res15 rfl rfl Q4.out Q5.out, _, by rw [R1.out], by rw [R1.out]; exact .inl ⟨rfl, rfl⟩, (B3.out.setCell (by rw [HN2.out]; show _ ≤ _ + 1; omega) _).setCell (by rw [HN2.out]; show _ ≤ _ + 1 + 1; omega) _⟩
  | true =>
    obtain ⟨-, c1, c2, -, -, -⟩ := X3.out.cells
    by_cases ho : S.off = true
    · rw [ho] at c2
      have R1 : Aside0 (S.read p = ([], 4)) := ⟨by unfold FSt.read; rw [if_pos HY.out.symm, if_pos ho]⟩
      have Q4 := Aside0.mk ((b4.set (.slice none 0 0)).other (B' := n + 1 + 1) (by omega) (.int .i64 4))
      have Q5 := Aside0.mk ((b5.other (B' := n + 1) (by omega) (.slice none 0 0)).set (.int .i64 4))
      clear b3 b4 b5 ho
      gi_wp2
      refine ⟨_, res15 rfl rfl Q4.out Q5.out, _, by rw [R1.out], by rw [R1.out]; exact .inl ⟨rfl, rfl⟩, (B3.out.setCell (by rw [HN2.out]; show _ ≤ _ + 1; omega) _).setCell (by rw [HN2.out]; show _ ≤ _ + 1 + 1; omega) _⟩
    · have ho' : S.off = false := by simpa using ho
      rw [ho'] at c2
      have HO := Aside0.mk ho
      obtain ⟨A, c, rfl, -⟩ := X.out.wslice
      obtain ⟨m, hm⟩ : ∃ m, m = S.waits.length := ⟨_, rfl⟩
      have M := Aside0.mk hm
      have hm6 : m ≤ 1000000 := by rw [hm]; exact HN.out
      clear hm
      have hx : ∀ x : Fin m, ∃ y : Nat × Nat, (∀ q, A = some ⟨q, 0, none⟩ → W.cell? ⟨q, x.1 * 2, none⟩ = some (.int .i64 (S.waits[x.1]'(by rw [← M.out]; exact x.2)).1) ∧ W.cell? ⟨q, x.1 * 2 + 1, none⟩ = some (.slice (some ⟨y.1, 0, none⟩) (S.waits[x.1]'(by rw [← M.out]; exact x.2)).2.length y.2)) ∧ ByteBlk W F (.slice (some ⟨y.1, 0, none⟩) (S.waits[x.1]'(by rw [← M.out]; exact x.2)).2.length y.2) (S.waits[x.1]'(by rw [← M.out]; exact x.2)).2 := fun x => by
        obtain ⟨q, c', v, hv, e0, e1, hb⟩ := X.out.waitAt rfl x.1 (by rw [← M.out]; exact x.2)
        obtain ⟨bq, bc, rfl, -⟩ := hb.reads
        refine ⟨(bq, bc), fun q' hq => ?_, hb⟩
        rw [Value.slice.injEq] at hv
        rw [hv.1] at hq
        simp only [Option.some.injEq, Addr.mk.injEq, and_true] at hq
        subst hq
        exact ⟨e0, e1⟩
      obtain ⟨f, hf⟩ := Classical.axiomOfChoice hx
      have FX := Aside0.mk hf
      have hA : 0 < m → ∃ b, A = some ⟨b, 0, none⟩ ∧ b < n := fun h0 => by
        obtain ⟨q, c', v, hv, e0, -⟩ := X.out.waitAt rfl 0 (by rw [← M.out]; exact h0)
        rw [Value.slice.injEq] at hv
        refine ⟨q, hv.1, ?_⟩
        rw [HN2.out]
        exact World.block_lt_of_cell? W _ e0
      have AX := Aside0.mk hA
      rw [← M.out] at c1
      clear ho hx hf hA
      gi_wp2_with (refine ⟨trivial, ?_⟩; gi_at_call 28; refine (back_in Fence.wide 2 trivial rfl _ _ _ _).mono ?_; rintro e w' ⟨rfl, rfl⟩)
      have bN := Boxed.new W3 59 (.slice A m c)
      rw [hsz] at bN
      have hB4 := below_alloc (Below.refl W3.heap.size W3) (.cells #[.slice A m c] 59)
      have B4 := Aside0.mk (B3.out.trans (hB4.mono B3.out.size))
      have bb3 := Boxed.below b3 hB4
      have bb4 := Boxed.below b4 hB4
      have bb5 := Boxed.below b5 hB4
      have hsz4 : (W3.alloc (.cells #[.slice A m c] 59)).heap.size = n + 4 := by rw [World.size_alloc, hsz]
      obtain ⟨W4, hW4⟩ : ∃ W4, W3.alloc (.cells #[.slice A m c] 59) = W4 := ⟨_, rfl⟩
      rw [hW4] at bN B4 bb3 bb4 bb5 hsz4 ⊢
      clear hB4 hW4 b3 b4 b5 c3 f4 f5 c4 c5 c1 c2 X3 hsz B3
      have hI0 : ∀ b, A = some ⟨b, 0, none⟩ → ∀ x : Fin m, W4.cell? ⟨b, x.1 * 2, none⟩ = some (.int .i64 (S.waits[x.1]'(by rw [← M.out]; exact x.2)).1) ∧ W4.cell? ⟨b, x.1 * 2 + 1, none⟩ = some (.slice (some ⟨(f x).1, 0, none⟩) (S.waits[x.1]'(by rw [← M.out]; exact x.2)).2.length (f x).2) := fun b hb x => by
        obtain ⟨e0, e1⟩ := (FX.out x).1 b hb
        exact ⟨below_cell B4.out e0, below_cell B4.out e1⟩
      refine wpIn_rangeFunc_ownH rfl (by decide) (gf := 36) (lb := #[.pointer (some ⟨n + 3, 0, none⟩)]) rfl trivial (enters_of Try.func36 (by kernel_rfl) rfl)
        (back_stops Fence.wide 2 trivial rfl (by decide) (n + 3) (n + 4) m c A hm6 (fun x => (S.waits[x.1]'(by rw [← M.out]; exact x.2)).1) (fun x => some ⟨(f x).1, 0, none⟩) (fun x => (f x).2) (fun x => (S.waits[x.1]'(by rw [← M.out]; exact x.2)).2.length) W4 (fun h0 => by obtain ⟨b, h1, h2⟩ := AX.out h0; exact ⟨b, h1, by omega⟩) (by omega) (by omega) bN.cell hI0) belowK_t (belowK_b (by omega)) (Below.refl _ _) (fun _ => rfl)
        (fun pre W' => ((Boxed W' n 3 (.int .i64 p) ∧ Boxed W' (n + 1) 30 (.slice none 0 0) ∧ Boxed W' (n + 1 + 1) 26 (.int .i64 0)) ∧ (∀ x ∈ pre, (S.waits[x.1]'(by rw [← M.out]; exact x.2)).1 ≠ p)) ∧ Below n W W' ∧ n + 4 ≤ W'.heap.size)
        (fun c' pre W' => (c' = .ret ∧ ∃ ini x, pre = ini ++ [x] ∧ (∀ x ∈ ini, (S.waits[x.1]'(by rw [← M.out]; exact x.2)).1 ≠ p) ∧ (S.waits[x.1]'(by rw [← M.out]; exact x.2)).1 = p ∧ ∃ a' k', Boxed W' (n + 1) 30 (.slice a' (S.waits[x.1]'(by rw [← M.out]; exact x.2)).2.length k') ∧ Boxed W' (n + 1 + 1) 26 (.int .i64 0) ∧ ByteBlk W' (fun k => n ≤ k) (.slice a' (S.waits[x.1]'(by rw [← M.out]; exact x.2)).2.length k') (S.waits[x.1]'(by rw [← M.out]; exact x.2)).2) ∧ Below n W W')
        (OwnFrom.and (Own.from (fun s A B row hs hg hr => ⟨⟨boxed_own (β := Unit) n 3 (fun _ => .int .i64 p) () A B row hs.1.1 hg hr, boxed_own (β := Unit) (n + 1) 30 (fun _ => .slice none 0 0) () A B row hs.1.2.1 hg hr, boxed_own (β := Unit) (n + 1 + 1) 26 (fun _ => .int .i64 0) () A B row hs.1.2.2 hg hr⟩, hs.2⟩) _) (OwnFrom.and (ownFrom_below (Nat.le_of_eq HN2.out) (by omega)) (Own.from (fun s A B row hs hg hr => Nat.le_trans hs hg.size) _)))
        (fun c => OwnFrom.and (Own.from (fun s A B row hs hg hr => by
          obtain ⟨hc, ini, x, e1, e2, e3, a', k', h1, h2, h3⟩ := hs
          exact ⟨hc, ini, x, e1, e2, e3, a', k', boxed_own (β := Unit) (n + 1) 30 (fun _ => _) () A B row h1 hg hr, boxed_own (β := Unit) (n + 1 + 1) 26 (fun _ => _) () A B row h2 hg hr, byteBlk_own (β := Unit) _ _ _ () A B row h3 hg hr⟩) _) (ownFrom_below (Nat.le_of_eq HN2.out) (by omega)))
        ⟨⟨⟨bb3, bb4, bb5⟩, by simp⟩, by rw [HN2.out]; exact B4.out, by omega⟩
        (fun x a' W' => ∃ Bx, n + 4 ≤ Bx ∧ W'.heap[Bx]? = some (.cells #[.int .i64 (S.waits[x.1]'(by rw [← M.out]; exact x.2)).1, .slice (some ⟨(f x).1, 0, none⟩) (S.waits[x.1]'(by rw [← M.out]; exact x.2)).2.length (f x).2] 65 (0, 0)) ∧ a' = { tmps := #[Value.pointer (some ⟨g, 0, none⟩), .int .i64 p, undef, .pointer (some ⟨n, 0, none⟩), .pointer (some ⟨n + 1, 0, none⟩), .pointer (some ⟨n + 1 + 1, 0, none⟩), undef, .pointer (some ⟨Bx, 0, none⟩), undef, .bool false, Value.pointer (some ⟨g, 0, none⟩), .int .i64 p, .bool true, .bool false, .bool false, Value.pointer (some ⟨g, 0, none⟩), Value.pointer (some ⟨g, 0, none⟩), .pointer (some ⟨g, 2, none⟩), .bool false, Value.pointer (some ⟨g, 0, none⟩), Value.pointer (some ⟨g, 0, none⟩), .pointer (some ⟨g, 1, none⟩), .slice A m c, .func (.func 36) #[] #[.pointer (some ⟨n + 3, 0, none⟩)], .int .i64 (x.1 : Int), .agg #[.int .i64 (S.waits[x.1]'(by rw [← M.out]; exact x.2)).1, .slice (some ⟨(f x).1, 0, none⟩) (S.waits[x.1]'(by rw [← M.out]; exact x.2)).2.length (f x).2], undef, undef, undef, undef, undef, undef, undef, undef, undef, undef, undef, undef, undef, undef, undef, undef, undef, undef, undef, undef, undef, undef, undef, undef, undef], defers := [] })
        (fun x a' => Own.from (fun s A B row hs hg hr => by
          obtain ⟨Bx, h1, h2, h3⟩ := hs
          exact ⟨Bx, h1, cells_own (β := Unit) _ _ _ () A B row h2 hg hr, h3⟩) _)
        ?assign ?body ?done ?stop
      case assign =>
        rintro l pre x W' K' hi hK
        obtain ⟨⟨⟨i1, i2, i3⟩, i4⟩, i5, i6⟩ := hi
        gi_wp2
        exact hK _ _ ((KeepsOthers.alloc _ _).from _) ((Below.refl _ W').alloc (by omega) _) ⟨⟨⟨i1.alloc _, i2.alloc _, i3.alloc _⟩, i4⟩, i5.alloc (by omega) _, by rw [World.size_alloc]; omega⟩ ⟨W'.heap.size, by omega, heap_alloc_new W' _, rfl⟩
      case body =>
        rintro l pre x a' W' hl ⟨r, hr⟩ hi ⟨Bx, hBx, bX, rfl⟩ hlt
        obtain ⟨⟨⟨i1, i2, i3⟩, i4⟩, i5, i6⟩ := hi
        have e0 := (blk_cell bX 0).trans rfl
        have e1 := (blk_cell bX 1).trans rfl
        have c3 := i1.cell
        have c4 := i2.cell
        have c5 := i3.cell
        have f4 := i2.frozen
        have f5 := i3.frozen
        obtain ⟨z, hz⟩ : ∃ z, z = (S.waits[x.1]'(by rw [← M.out]; exact x.2)).1 := ⟨_, rfl⟩
        obtain ⟨b, hb⟩ : ∃ b, b = (S.waits[x.1]'(by rw [← M.out]; exact x.2)).2 := ⟨_, rfl⟩
        have hBB := (FX.out x).2
        have hb6 := (K.out.w _ (List.getElem_mem (by rw [← M.out]; exact x.2 : x.1 < S.waits.length))).2.2
        have HI := Aside0.mk i4
        have Z := Aside0.mk hz
        have ZB := Aside0.mk hb
        rw [← hz] at e0 ⊢
        rw [← hb] at e1 hBB hb6 ⊢
        have HBB := Aside0.mk (hBB.move (W' := W') (fun k cs _ hk => i5.block k (by rw [HN2.out]; exact blk_lt hk)) (fun _ h _ => h))
        have H6 := Aside0.mk hb6
        have I5 := Aside0.mk i5
        have I6 := Aside0.mk i6
        have J := Aside0.mk (And.intro i1 (And.intro i2 i3))
        clear hz hb hBB hb6 i4 bX i5
        by_cases hzp : z = p
        · have g1 : (z == p) = true := beq_iff_eq.2 hzp
          have HZ := Aside0.mk hzp
          clear hzp
          gi_wp2_with (refine ⟨trivial, ?_⟩; gi_at_call 26; refine (CallsIn.inRound l (callsIn_wide.2 (clone_calls (G := fun k => n ≤ k) HBB.out (by rw [H6.out]; decide) (by rw [H6.out]; decide) (fun k hk => by have := I6.out; omega)))).mono ?_; rintro e w2 ⟨v2, rfl, hb2, hB2⟩; obtain ⟨q2, k2, rfl, -, -, -, -⟩ := hb2.reads; have j4 := Boxed.below J.out.2.1 hB2; have j5 := Boxed.below J.out.2.2 hB2; have HB2 := Aside0.mk hb2; have BB2 := Aside0.mk hB2; have J4 := Aside0.mk j4; have J5 := Aside0.mk j5; have t4 := j4.cell; have t5 := j5.cell; have u4 := j4.frozen; have u5 := j5.frozen; clear hb2 hB2 j4 j5)
          have Q4 := ((Boxed.set J4.out (.slice (some ⟨q2, 0, none⟩) b.length k2)).other (B' := n + 1 + 1) (by omega) (.int .i64 0))
          have Q5 := Boxed.set (J5.out.other (B' := n + 1) (by omega) (.slice (some ⟨q2, 0, none⟩) b.length k2)) (.int .i64 0)
          have QB := HB2.out.move (W' := (w2.setCell ⟨n + 1, 0, none⟩ (.slice (some ⟨q2, 0, none⟩) b.length k2)).setCell ⟨n + 1 + 1, 0, none⟩ (.int .i64 0)) (fun k cs _ hk => (Below.heap_setCell _ ⟨n + 1 + 1, 0, none⟩ _ k (blk_ne hk J5.out (by decide))).trans (Below.heap_setCell _ ⟨n + 1, 0, none⟩ _ k (blk_ne hk J4.out (by decide)))) (fun _ h _ => h)
          refine ⟨((KeepsOthers.of_below BB2.out).trans ((KeepsOthers.setCell _ _ _).trans (KeepsOthers.setCell _ _ _))).from _, ⟨rfl, pre, x, rfl, HI.out, Z.out.symm.trans HZ.out, some ⟨q2, 0, none⟩, k2, ?_⟩, ((I5.out.trans (BB2.out.mono (by have := I6.out; omega))).setCell (show n ≤ n + 1 by omega) _).setCell (show n ≤ n + 1 + 1 by omega) _⟩
          rw [← ZB.out]
          exact ⟨Q4, Q5, QB⟩
        · have g1 : (z == p) = false := beq_eq_false_iff_ne.2 hzp
          have HZ := Aside0.mk hzp
          clear hzp
          gi_wp2
          exact ⟨KeepsFrom.refl _ _, Below.refl _ _, ⟨J.out, fun y hy => (List.mem_append.1 hy).elim (HI.out y) (fun e => by simp at e; subst e; rw [← Z.out]; exact HZ.out)⟩, I5.out, I6.out⟩
      case done =>
        rintro D xs W' hD rfl hi hK
        obtain ⟨⟨⟨i1, i2, i3⟩, i4⟩, i5, i6⟩ := hi
        have c3 := i1.cell
        have c4 := i2.cell
        have c5 := i3.cell
        have f4 := i2.frozen
        have f5 := i3.frozen
        have DW := Aside0.mk (DV.out W' (by rw [← HN2.out]; exact i5))
        have FD : Aside0 (S.found p = none) := ⟨by
          have hm := M.out
          subst hm
          exact found_none S.waits p i4⟩
        obtain ⟨c1, -, -, -, -, -⟩ := DW.out.cells
        obtain ⟨k, rfl⟩ : ∃ k : Nat, p = (k : Int) := by
          have := HY.out
          unfold FSt.isIn at this
          simp only [Bool.true_eq, Bool.and_eq_true, decide_eq_true_eq] at this
          exact ⟨p.toNat, by omega⟩
        have hk : k < S.secs.length := by
          have := HY.out
          unfold FSt.isIn at this
          simp only [Bool.true_eq, Bool.and_eq_true, decide_eq_true_eq] at this
          omega
        obtain ⟨⟨u, d0, hsc⟩, d1, -, -⟩ := DW.out.secCells k hk
        have R1 : Aside0 (S.read (k : Int) = if (S.secs[k]?.getD (none, false)).2 then ([], 3) else ((S.secs[k]?.getD (none, false)).1.getD noughts, 0)) := ⟨by
          unfold FSt.read
          rw [if_pos HY.out.symm, if_neg HO.out, FD.out, Int.toNat_natCast]⟩
        have SL : Aside0 (∀ l, (S.secs[k]?.getD (none, false)).1 = some l → l.length = 256) := ⟨fun l hl => by
          rw [List.getElem?_eq_getElem hk] at hl
          exact K.out.b _ (List.getElem_mem hk) l hl⟩
        obtain ⟨sb, hsb⟩ : ∃ sb, sb = (S.secs[k]?.getD (none, false)).1 := ⟨_, rfl⟩
        obtain ⟨st, hst⟩ : ∃ st, st = (S.secs[k]?.getD (none, false)).2 := ⟨_, rfl⟩
        rw [← hsb] at hsc SL R1
        rw [← hst] at d1 R1
        obtain ⟨z, hz⟩ : ∃ z, z = S.secs.length := ⟨_, rfl⟩
        rw [← hz] at c1 hk
        have p1 : (0 : Int) ≤ (k : Int) := Int.natCast_nonneg _
        have p2 : (k : Int) < (z : Int) := Int.ofNat_lt.2 hk
        obtain ⟨uA, ul, uc, rfl⟩ : ∃ uA ul uc, u = .slice uA ul uc := by
          cases sb with
          | none => exact ⟨_, _, _, hsc⟩
          | some b => obtain ⟨q, c, e, -⟩ := hsc.reads; exact ⟨_, _, _, e⟩
        have HSC := Aside0.mk hsc
        have HK := Aside0.mk hK
        have J := Aside0.mk (And.intro i1 (And.intro i2 i3))
        have I5 := Aside0.mk i5
        have I6 := Aside0.mk i6
        have hBa := below_alloc (Below.refl W'.heap.size W') (.cells #[.slice none 0 0, .bool false] 71)
        have c3a := below_cell hBa c3
        have c1a := below_cell hBa c1
        have d0a := below_cell hBa d0
        have d1a := below_cell hBa d1
        have bx := heap_alloc_new W' (.cells #[.slice none 0 0, .bool false] 71)
        have x0 := (blk_cell bx 0).trans rfl
        have x1 := (blk_cell bx 1).trans rfl
        have y0 := blk_frozen bx 0
        have y1 := blk_frozen bx 1
        clear hK i1 i2 i3 i4 i5 hsb hst hz hk hsc hBa bx
        gi_wp2
        gi_region
        have hBf : Below W'.heap.size W' (W'.alloc (.cells #[.slice uA ul uc, .bool st] 71)).drew := (below_alloc (Below.refl W'.heap.size W') _).drew
        have v0 := (blk_cell (w := (W'.alloc (.cells #[.slice uA ul uc, .bool st] 71)).drew) (heap_alloc_new W' (.cells #[.slice uA ul uc, .bool st] 71)) 0).trans rfl
        have v1 := (blk_cell (w := (W'.alloc (.cells #[.slice uA ul uc, .bool st] 71)).drew) (heap_alloc_new W' (.cells #[.slice uA ul uc, .bool st] 71)) 1).trans rfl
        have hKV : (W'.alloc (.cells #[.slice uA ul uc, .bool st] 71)).drew.heap[D]? = some (.deferred (some [])) := (hBf.block D (Array.getElem?_eq_some_iff.1 HK.out).1).trans HK.out
        have j4 := Boxed.below J.out.2.1 hBf
        have j5 := Boxed.below J.out.2.2 hBf
        have BV := I5.out.trans (hBf.mono (by have := I6.out; omega))
        have SV := HSC.out.move (W' := (W'.alloc (.cells #[.slice uA ul uc, .bool st] 71)).drew) (fun k cs _ hk => hBf.block k (blk_lt hk)) (fun _ h _ => h)
        have SZ : n + 4 ≤ (W'.alloc (.cells #[.slice uA ul uc, .bool st] 71)).drew.heap.size := Nat.le_trans I6.out hBf.size
        obtain ⟨r, hr⟩ : ∃ r, r = W'.heap.size := ⟨_, rfl⟩
        rw [← hr] at v0 v1 ⊢
        obtain ⟨V, hV⟩ : ∃ V, (W'.alloc (.cells #[.slice uA ul uc, .bool st] 71)).drew = V := ⟨_, rfl⟩
        rw [hV] at v0 v1 hKV j4 j5 BV SV SZ ⊢
        have t4 := j4.cell
        have t5 := j5.cell
        have u4 := j4.frozen
        have u5 := j5.frozen
        have KV := Aside0.mk hKV
        have J4 := Aside0.mk j4
        have J5 := Aside0.mk j5
        have BV' : Aside0 (Below W.heap.size W V) := ⟨by rw [← HN2.out]; exact BV⟩
        have SV' := Aside0.mk SV
        have SZ' := Aside0.mk SZ
        have ND : Aside0 (W.heap.size ≤ D) := ⟨by rw [← HN2.out]; omega⟩
        clear hBf hKV j4 j5 BV SV hV hr c3 c4 c5 f4 f5 c1 d0 d1 c3a c1a d0a d1a x0 x1 y0 y1 SZ p1 p2
        cases st with
        | true =>
          have R2 : Aside0 (S.read (k : Int) = ([], 3)) := ⟨by rw [R1.out]; rfl⟩
          have Q4 := Aside0.mk ((Boxed.set J4.out (.slice none 0 0)).other (B' := n + 1 + 1) (by omega) (.int .i64 3))
          have Q5 := Aside0.mk (Boxed.set (J5.out.other (B' := n + 1) (by omega) (.slice none 0 0)) (.int .i64 3))
          gi_wp2
          rw [R2.out]
          exact fin15 rfl rfl (((KeepsOthers.setCell V _ _).trans (KeepsOthers.setCell _ _ _)).same D _ KV.out rfl) Q4.out Q5.out (.inl ⟨rfl, rfl⟩) ((BV'.out.setCell (show W.heap.size ≤ n + 1 by rw [HN2.out]; omega) _).setCell (show W.heap.size ≤ n + 1 + 1 by rw [HN2.out]; omega) _) ND.out
        | false =>
          have q30 : ∀ (w : World) (a : Option Addr) (n c n' c' : Nat), (binOp .eql 30 (.slice a n c) (.slice none n' c')).run Try.prog w = .ok (.bool a.isNone) w := fun w a n c n' c' => Lib.run_eql_slice_nil w _ _ a n c n' c' Try.underlying30
          cases sb with
          | none =>
            have R2 : Aside0 (S.read (k : Int) = (noughts, 0)) := ⟨by rw [R1.out]; rfl⟩
            have hu : Value.slice uA ul uc = .slice none 0 0 := SV'.out
            rw [Value.slice.injEq] at hu
            obtain ⟨rfl, rfl, rfl⟩ := hu
            obtain ⟨i, hi, hz, hs, hby⟩ := info_parts info5
            have mk := run_make (P := Try.prog) V 30 5 i _ Try.underlying30 hi hz .i64 .i64 (256 : Int) (256 : Int) (by omega) (by omega) (by rw [hby]; omega) (by omega)
            rw [hs] at mk
            have hBm := below_alloc (Below.refl V.heap.size V) (.cells (madeCells #[.int .u8 0] (256 * 1)) 5)
            have m4 := Boxed.below J4.out hBm
            have m5 := Boxed.below J5.out hBm
            have t4' := m4.cell
            have t5' := m5.cell
            have u4' := m4.frozen
            have u5' := m5.frozen
            have QB := noughts_blk (W := V) (F := fun k => W.heap.size ≤ k) (show W.heap.size ≤ V.heap.size from BV'.out.size)
            obtain ⟨M2, hM2⟩ : ∃ M2, M2 = V.heap.size := ⟨_, rfl⟩
            have Q4 := Aside0.mk ((Boxed.set m4 (.slice (some ⟨V.heap.size, 0, none⟩) 256 256)).other (B' := n + 1 + 1) (by omega) (.int .i64 0))
            have Q5 := Aside0.mk (Boxed.set (m5.other (B' := n + 1) (by omega) (.slice (some ⟨V.heap.size, 0, none⟩) 256 256)) (.int .i64 0))
            have QB' := Aside0.mk (QB.move (W' := ((V.alloc (.cells (madeCells #[.int .u8 0] (256 * 1)) 5)).setCell ⟨n + 1, 0, none⟩ (.slice (some ⟨V.heap.size, 0, none⟩) 256 256)).setCell ⟨n + 1 + 1, 0, none⟩ (.int .i64 0)) (fun k cs _ hk => (Below.heap_setCell _ ⟨n + 1 + 1, 0, none⟩ _ k (blk_ne hk m5 (by decide))).trans (Below.heap_setCell _ ⟨n + 1, 0, none⟩ _ k (blk_ne hk m4 (by decide)))) (fun _ h _ => h))
            have BB := Aside0.mk hBm
            clear hBm m4 m5 QB hi hz hs hby hM2
            gi_wp2
            rw [R2.out]
            exact fin15 rfl rfl (((KeepsOthers.of_below BB.out).trans ((KeepsOthers.setCell _ _ _).trans (KeepsOthers.setCell _ _ _))).same D _ KV.out rfl) Q4.out Q5.out (.inr ⟨noughts_len, QB'.out⟩) (((BV'.out.trans (BB.out.mono BV'.out.size)).setCell (show W.heap.size ≤ n + 1 by rw [HN2.out]; omega) _).setCell (show W.heap.size ≤ n + 1 + 1 by rw [HN2.out]; omega) _) ND.out
          | some b =>
            have R2 : Aside0 (S.read (k : Int) = (b, 0)) := ⟨by rw [R1.out]; rfl⟩
            have L6 : Aside0 (b.length = 256) := ⟨SL.out b rfl⟩
            have HB : Aside0 (ByteBlk V F (.slice uA ul uc) b) := ⟨SV'.out⟩
            obtain ⟨q, cc, hu, -, -, -, -⟩ := HB.out.reads
            rw [Value.slice.injEq] at hu
            obtain ⟨rfl, rfl, rfl⟩ := hu
            gi_wp2_with (refine ⟨trivial, ?_⟩; gi_at_call 26; refine (callsIn_wide.2 (clone_calls (G := fun k => W.heap.size ≤ k) HB.out (by rw [L6.out]; decide) (by rw [L6.out]; decide) (fun k hk => Nat.le_trans BV'.out.size hk))).mono ?_; rintro e w2 ⟨v2, rfl, hb2, hB2⟩; obtain ⟨q2, k2, rfl, -, -, -, -⟩ := hb2.reads; have j4 := Boxed.below J4.out hB2; have j5 := Boxed.below J5.out hB2; have HB2 := Aside0.mk hb2; have BB2 := Aside0.mk hB2; have K4 := Aside0.mk j4; have K5 := Aside0.mk j5; have t4' := j4.cell; have t5' := j5.cell; have u4' := j4.frozen; have u5' := j5.frozen; clear hb2 hB2 j4 j5)
            have Q4 := ((Boxed.set K4.out (.slice (some ⟨q2, 0, none⟩) b.length k2)).other (B' := n + 1 + 1) (by omega) (.int .i64 0))
            have Q5 := Boxed.set (K5.out.other (B' := n + 1) (by omega) (.slice (some ⟨q2, 0, none⟩) b.length k2)) (.int .i64 0)
            have QB := HB2.out.move (W' := (w2.setCell ⟨n + 1, 0, none⟩ (.slice (some ⟨q2, 0, none⟩) b.length k2)).setCell ⟨n + 1 + 1, 0, none⟩ (.int .i64 0)) (fun k cs _ hk => (Below.heap_setCell _ ⟨n + 1 + 1, 0, none⟩ _ k (blk_ne hk K5.out (by decide))).trans (Below.heap_setCell _ ⟨n + 1, 0, none⟩ _ k (blk_ne hk K4.out (by decide)))) (fun _ h _ => h)
            rw [R2.out]
            exact fin15 rfl rfl (((KeepsOthers.of_below BB2.out).trans ((KeepsOthers.setCell _ _ _).trans (KeepsOthers.setCell _ _ _))).same D _ KV.out rfl) Q4 Q5 (.inr ⟨L6.out, QB⟩) (((BV'.out.trans (BB2.out.mono BV'.out.size)).setCell (show W.heap.size ≤ n + 1 by rw [HN2.out]; omega) _).setCell (show W.heap.size ≤ n + 1 + 1 by rw [HN2.out]; omega) _) ND.out
      case stop =>
        rintro D c' pre W' hD ⟨k, hk, rfl⟩ hi hK
        obtain ⟨⟨rfl, ini, x, e1, e2, e3, a', k', h1, h2, h3⟩, h5⟩ := hi
        have hm := M.out
        subst hm
        have FD := found_some S.waits p k ini x e1 e2 e3
        have R1 : Aside0 (S.read p = (S.waits[x.1].2, 0)) := ⟨by unfold FSt.read FSt.found; rw [if_pos HY.out.symm, if_neg HO.out, FD]⟩
        have hg := grownBy_putObj' W' D (.deferred none)
        have hr : ∀ r, some D = some r → ∃ o : Obj, W'.heap[r]? = some o ∧ o.isCells = false := fun r e => by cases e; exact ⟨_, hK, rfl⟩
        have Q4 := boxed_own (β := Unit) (n + 1) 30 (fun _ => _) () _ _ _ h1 hg hr
        have Q5 := boxed_own (β := Unit) (n + 1 + 1) 26 (fun _ => _) () _ _ _ h2 hg hr
        have QB := byteBlk_own (β := Unit) _ _ _ () _ _ _ h3 hg hr
        have hl := (K.out.w _ (List.getElem_mem x.2)).2.2
        have B5 := Below.grown h5 hg (by rw [HN2.out]; exact Nat.le_trans (Nat.le_of_eq rfl) (h5.size)) (fun k e => by cases e; omega)
        gi_wp2
        refine ⟨by simp, .inl ⟨_, _, rfl, run_takeDeferred hK, ?_⟩⟩
        refine ⟨_, res15 rfl rfl Q4 Q5, _, by rw [R1.out], ?_, by rw [← HN2.out]; exact B5⟩
        rw [R1.out]
        exact .inr ⟨hl, by rw [← HN2.out]; exact QB⟩
end
end Go.Proofs.Ytgakjpnfbgmjjaa.PA
