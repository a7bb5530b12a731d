import Derived.Test.YtgakjpnfbgmjjaaL2
import Derived.Deep.RegionHeldLaw
import Derived.Deep.Slices
import Derived.SizedLaws
import Derived.IntWalk
import Derived.ArgAppend
namespace Go.Proofs.Ytgakjpnfbgmjjaa.PA
open Go.RowKit Go.Proofs.YtgakjpnfbgmjjaaW.PrintWords Go.Proofs.YtgakjpnfbgmjjaaW.PrintLast Go.Proofs.YtgakjpnfbgmjjaaW.PrintMore
set_option linter.unusedVariables false
set_option linter.unusedSimpArgs false
/-! ### Write -/
theorem below_cell {w w1 : World} (hb : Below w.heap.size w w1) {p : Addr} {u : Value} (h : w.cell? p = some u) : w1.cell? p = some u := by
  have hl : p.block < w.heap.size := by
    rcases Nat.lt_or_ge p.block w.heap.size with h' | h'
    · exact h'
    · exfalso
      unfold World.cell? at h
      rw [Array.getElem?_eq_none h'] at h
      simp at h
  rw [hb.cell (p := p) hl]
  exact h
theorem step_append_ran {P : Program} {ops : Array Oper} {o : Oper} {a : Act} {K : Act → World → Prop} {Q : Exit → Act → World → Prop} {E : Prop} {w w' : World} (hg : o.guard = none) (s x : Operand) (t : TypeId)
    (hop : o.op = Op.call { callee := Callee.builtin Builtin.append, args := #[s, x], argTypes := #[t, t] }) (v1 v2 v : Value) (hs : a.eval s = v1) (hx : a.eval x = v2)
    (hrun : (Builtin.append_ #[t, t] o.type #[v1, v2]).run P w = .ok v w') (h : K (a.put o.dst v) w') : if Region.wanted o (yielded ops a.tmps) = true then Oper.wp P o a w K Q else E := by
  have hw : Region.wanted o (yielded ops a.tmps) = true := by simp [Region.wanted, hg]
  rw [if_pos hw]
  unfold Oper.wp execOp
  simp only [hop, resolve, invoke, builtin, Sem.run_bind, Sem.run_pure, Result.andThen_ok, List.map_toArray, List.map_cons, List.map_nil, hs, hx, hrun]
  exact h
theorem info65 : (Try.prog.info? 65).map (fun i => (i.zero, i.size, i.bytes)) = some (some (.agg #[.int .i64 0, .slice none 0 0]), 2, 32) := by kernel_rfl
theorem dev_push {W : World} {F : Nat → Prop} {g gs : Nat} {vw : Value} {S : FSt} (h : DevAt W F g gs vw S) (hF : ∀ k, W.heap.size ≤ k → F k) (hn : S.waits.length ≤ 1000000) (p : Int) (v : Value) (b : List Int) (hb : ByteBlk W F v b) (B : Nat) (hB : W.heap[B]? = some (.cells #[.int .i64 p, v] 65 (0, 0))) :
    ∃ v' w', (Builtin.append_ #[59, 59] 59 #[vw, .slice (some ⟨B, 0, none⟩) 1 1]).run Try.prog W = .ok v' w' ∧ DevAt (w'.setCell ⟨g, 1, none⟩ v') F g gs v' { S with waits := S.waits ++ [(p, b)] } ∧ Chg F W (w'.setCell ⟨g, 1, none⟩ v') ∧ w'.cell? ⟨g, 1, none⟩ = some vw ∧ w'.frozen? ⟨g, 1, none⟩ = false := by
  obtain ⟨i, hi, hz, hs, hby⟩ := info_parts info65
  obtain ⟨cs, hs1, hs2⟩ := h.hs
  obtain ⟨xs, hw1, hw2⟩ := h.hw
  have hbc := hb.reads
  obtain ⟨bq, bc, rfl, _⟩ := hbc
  obtain ⟨v', w', hr, ho, hg, hf⟩ := run_append_own2 (P := Try.prog) W 0 59 59 65 i _ 2 32 Try.underlying59 hi hz hs hby rfl (by decide) vw S.waits.length xs hw1 ⟨B, 0, none⟩ 1 1 [.int .i64 p, .slice (some ⟨bq, 0, none⟩) b.length bc] rfl
    (fun j u hu => by
      rw [add_plain, blk_cell hB]
      rw [← Array.getElem?_toList]
      exact hu)
    (by intro u hu; simp at hu; rcases hu with rfl | rfl <;> rfl) (by decide) (by simp only [maxLen]; omega) (by omega) (Nat.zero_le _)
  have hne : ∀ (k : Nat) (cs : Array Value) (t : TypeId), W.heap[k]? = some (.cells cs t (0, 0)) → t ≠ 65 → w'.heap[k]? = W.heap[k]? := fun k cs t hk ht => hg.block k (blk_lt hk) (fun e => by
    obtain ⟨c, hc⟩ := own_typed hw1 k e.symm
    exact blk_ne hk hc ht rfl)
  have hgb := (hne g _ _ h.hg (by decide)).trans h.hg
  refine ⟨v', w', hr, ?_, ?_, (blk_cell hgb 1).trans rfl, blk_frozen hgb 1⟩
  · have ho2 := fun k hk => Below.heap_setCell w' ⟨g, 1, none⟩ v' k hk
    have hm' : ∀ k cs, F k → W.heap[k]? = some (.cells cs 5 (0, 0)) → (w'.setCell ⟨g, 1, none⟩ v').heap[k]? = W.heap[k]? := fun k cs hk hb => (ho2 k (blk_ne hb h.hg (by decide))).trans (hne k cs 5 hb (by decide))
    have hFv : ∀ k, v'.ownBlock = some k → F k := fun k hk => by
      rcases hf k hk with h1 | h1
      · exact h.fw k h1
      · exact hF k h1
    refine ⟨h.fg, h.fs, ?_, ⟨cs, (ho2 _ (blk_ne hs1 h.hg (by decide))).trans ((hne _ _ _ hs1 (by decide)).trans hs1), hs2.move hm' (fun _ h _ => h)⟩, ⟨xs ++ [.int .i64 p, .slice (some ⟨bq, 0, none⟩) b.length bc], ?_, ?_⟩, hFv⟩
    · exact heap_setCell_same w' g 1 _ 61 v' hgb
    · show (w'.setCell ⟨g, 1, none⟩ v').ownsRow 0 65 2 v' (S.waits ++ [(p, b)]).length _
      rw [List.length_append]
      refine own_move ho (fun k hk => ho2 k ?_)
      obtain ⟨c, hc⟩ := own_typed ho k hk
      exact blk_ne hc hgb (by decide)
    · have hb' := hb.move (W' := w'.setCell ⟨g, 1, none⟩ v') hm' (fun _ h _ => h)
      have hsz := hw2.size
      refine ⟨by simp [hsz]; omega, fun j s hj => ?_, fun j s hj => ?_⟩
      · by_cases hjl : j < S.waits.length
        · rw [List.getElem?_append_left hjl] at hj
          rw [List.getElem?_append_left (by omega)]
          exact hw2.p j s hj
        · have : j = S.waits.length := by
            have := (List.getElem?_eq_some_iff.1 hj).1
            simp at this
            omega
          subst this
          rw [List.getElem?_append_right (Nat.le_refl _), Nat.sub_self] at hj
          simp only [List.getElem?_cons_zero, Option.some.injEq] at hj
          subst hj
          rw [List.getElem?_append_right (by omega), hsz, Nat.sub_self]
          rfl
      · by_cases hjl : j < S.waits.length
        · rw [List.getElem?_append_left hjl] at hj
          rw [List.getElem?_append_left (by omega)]
          obtain ⟨u, h1, h2⟩ := hw2.b j s hj
          exact ⟨u, h1, h2.move hm' (fun _ h _ => h)⟩
        · have : j = S.waits.length := by
            have := (List.getElem?_eq_some_iff.1 hj).1
            simp at this
            omega
          subst this
          rw [List.getElem?_append_right (Nat.le_refl _), Nat.sub_self] at hj
          simp only [List.getElem?_cons_zero, Option.some.injEq] at hj
          subst hj
          rw [List.getElem?_append_right (by omega), hsz, show S.waits.length * 2 + 1 - S.waits.length * 2 = 1 by omega]
          exact ⟨_, rfl, hb'⟩
  · have hgc : Chg F W w' := ⟨hg.os, hg.tape, hg.output, hg.size, fun k hk hn => hg.block k hk (fun e => hn (h.fw k e.symm))⟩
    exact hgc.setCell (p := ⟨g, 1, none⟩) h.fg v'
set_option maxHeartbeats 1000000 in
theorem dev_write {W : World} {F : Nat → Prop} {g : Nat} {S : FSt} (h : Dev W F g S) (hk : S.Ok) (hwl : S.waits.length ≤ 1000000) (hF : ∀ k, W.heap.size ≤ k → F k) (p : Int) (A : Option Addr) (n c : Nat) (l : List Int) (hl : n = l.length) (hb : l.length = 256 → ByteBlk W (fun _ => True) (.slice A n c) l) :
    Calls Try.prog 12 #[.pointer (some ⟨g, 0, none⟩), .int .i64 p, .slice A n c] W fun e W' => e = .returned (.int .i64 (S.write p l).2) ∧ Dev W' F g (S.write p l).1 ∧ Chg F W W' := by
  obtain ⟨gs, vw, h⟩ := h
  have X := Aside0.mk h
  have K := Aside0.mk hk
  have FF := Aside0.mk hF
  have HL := Aside0.mk hl
  have HB0 := Aside0.mk hb
  have HN := Aside0.mk hwl
  clear h hk hF hl hb hwl
  go_enter Try.func12, Try.ntmps12
  go_wp2_with fail
  refine (dev_is X.out K.out.n p).mono ?_
  rintro e wa ⟨rfl, rfl⟩
  obtain ⟨y, hy⟩ : ∃ y, y = S.isIn p := ⟨_, rfl⟩
  have HY := Aside0.mk hy
  rw [← hy]
  clear hy
  by_cases hg : y = true ∧ n = 256
  · obtain ⟨rfl, rfl⟩ := hg
    go_wp2_with fail
    refine (dev_spend X.out).mono ?_
    rintro e wb ⟨rfl, hD, hO⟩
    have Y := Aside0.mk hD
    have C := Aside0.mk (hO.chg X.out.fg)
    have hw1 : S.write p l = if S.stops then (S.spent, 4) else ({ S.spent with waits := S.waits ++ [(p, l)] }, 0) := by
      unfold FSt.write
      rw [← HY.out, ← HL.out]
      rfl
    have HW := Aside0.mk hw1
    by_cases hs : S.stops = true
    · rw [hs]
      clear hD hO hw1
      go_wp2_with fail
      go_ret
      rw [HW.out, if_pos hs]
      exact ⟨rfl, ⟨_, _, Y.out⟩, C.out⟩
    · have hs' : S.stops = false := by simpa using hs
      rw [hs']
      have hb := HB0.out HL.out.symm
      obtain ⟨q, cc, hA, -, -, -, -⟩ := hb.reads
      have HB : Aside0 (ByteBlk wb.drew (fun _ => True) (.slice A 256 c) l) := ⟨hb.move (fun k cs _ hk => hO.block k (blk_ne hk X.out.hg (by decide))) (fun _ h _ => h)⟩
      have HF2 : Aside0 (∀ k, wb.heap.size ≤ k → F k) := ⟨fun k hk => FF.out k (by rw [← hO.size]; exact hk)⟩
      obtain ⟨-, c1, -, -, -, hf⟩ := hD.cells
      clear hD hO hw1 hb hA hf
      go_wp2_with fail
      refine wp_region_held_drew (S := fun _ => True) (by kernel_rfl) trivial (fun hHeld => ?_)
      refine wpAnyH_take (i := 0) (oi := _) (v := _) rfl (by kernel_rfl) (by kernel_rfl) (by kernel_rfl) (fun _ _ _ h => h) (Or.inl ⟨by rfl, by (intro w hSw; (try dsimp only at hSw); go_simp; try with_reducible rfl)⟩) hHeld ?_
      simp only [Act.put, List.getElem_toArray, List.getElem_cons_zero, List.getElem_cons_succ, List.setIfInBounds_toArray, List.set_cons_zero, List.set_cons_succ]
      refine wpAnyH_take (i := 1) (oi := _) (v := _) rfl (by kernel_rfl) (by kernel_rfl) (by kernel_rfl) (fun _ _ _ h => h) (Or.inl ⟨by rfl, by (intro w hSw; (try dsimp only at hSw); go_simp; try with_reducible rfl)⟩) hHeld ?_
      simp only [Act.put, List.getElem_toArray, List.getElem_cons_zero, List.getElem_cons_succ, List.setIfInBounds_toArray, List.set_cons_zero, List.set_cons_succ]
      refine wpAnyH_take (i := 2) (oi := _) (v := _) rfl (by kernel_rfl) (by kernel_rfl) (by kernel_rfl) (fun _ _ _ h => h) (Or.inl ⟨by rfl, by (intro w hSw; (try dsimp only at hSw); go_simp; try with_reducible rfl)⟩) hHeld ?_
      simp only [Act.put, List.getElem_toArray, List.getElem_cons_zero, List.getElem_cons_succ, List.setIfInBounds_toArray, List.set_cons_zero, List.set_cons_succ]
      refine wpAnyH_take (i := 3) (oi := _) (v := _) rfl (by kernel_rfl) (by kernel_rfl) (by kernel_rfl) (fun _ _ _ h => h) (Or.inl ⟨by rfl, by (intro w hSw; (try dsimp only at hSw); go_simp; try with_reducible rfl)⟩) hHeld ?_
      simp only [Act.put, List.getElem_toArray, List.getElem_cons_zero, List.getElem_cons_succ, List.setIfInBounds_toArray, List.set_cons_zero, List.set_cons_succ]
      refine wpAnyH_take (i := 5) (oi := _) (v := _) rfl (by kernel_rfl) (by kernel_rfl) (by kernel_rfl) (fun _ _ _ h => h) (Or.inl ⟨by rfl, by (intro w hSw; (try dsimp only at hSw); go_simp; try with_reducible rfl)⟩) hHeld ?_
      simp only [Act.put, List.getElem_toArray, List.getElem_cons_zero, List.getElem_cons_succ, List.setIfInBounds_toArray, List.set_cons_zero, List.set_cons_succ]
      refine wpAnyH_take (i := 6) (oi := _) (v := _) rfl (by kernel_rfl) (by kernel_rfl) (by kernel_rfl) (fun _ _ _ h => h) (Or.inl ⟨by rfl, by (intro w hSw; (try dsimp only at hSw); go_simp; try with_reducible rfl)⟩) hHeld ?_
      simp only [Act.put, List.getElem_toArray, List.getElem_cons_zero, List.getElem_cons_succ, List.setIfInBounds_toArray, List.set_cons_zero, List.set_cons_succ]
      refine wpAnyH_ready (rs := [4, 7]) (by kernel_rfl) (by simp) ?_
      refine (AllReadyH.cons rfl (fun K hK => ?_) (AllReadyH.cons rfl (fun K hK => ?_) AllReadyH.nil))
      · go_simp
        refine hK.out _ _ trivial (fun hNew => ?_)
        clear hK K hNew
        refine wpAnyH_ready (rs := [7]) (by kernel_rfl) (by simp) ?_
        refine AllReadyH.cons rfl (fun K hK => ?_) AllReadyH.nil
        go_simp
        go_wp2_with fail
        refine (clone_calls HB.out (by rw [← HL.out]; decide) (by rw [← HL.out]; decide) HF2.out).mono ?_
        rintro e w2 ⟨v2, rfl, hb2, hB2⟩
        have HB2 := Aside0.mk hb2
        have BB2 := Aside0.mk hB2
        obtain ⟨q2, k2, rfl, -, -, -, -⟩ := hb2.reads
        have c2 : w2.cell? ⟨g, 1, none⟩ = some vw := below_cell hB2 c1
        have c4 := below_cell (below_alloc (Below.refl w2.heap.size w2) (.cells #[.int .i64 p, .slice (some ⟨q2, 0, none⟩) l.length k2] 65)) c2
        clear hb2 hB2
        go_wp2_with fail
        refine hK.out _ _ trivial (fun hNew => ?_)
        clear hK K hNew
        refine wpAnyH_take (i := 8) (oi := _) (v := _) rfl (by kernel_rfl) (by kernel_rfl) (by kernel_rfl) (fun _ _ _ h => h) (Or.inl ⟨by rfl, by (intro w hSw; (try dsimp only at hSw); go_simp; try with_reducible rfl)⟩) hHeld ?_
        simp only [Act.put, List.getElem_toArray, List.getElem_cons_zero, List.getElem_cons_succ, List.setIfInBounds_toArray, List.set_cons_zero, List.set_cons_succ]
        refine wpAnyH_ready (rs := [9]) (by kernel_rfl) (by simp) ?_
        refine AllReadyH.cons rfl (fun K hK => ?_) AllReadyH.nil
        go_simp
        refine hK.out _ _ trivial (fun hNew => ?_)
        clear hK K hNew
        refine wpAnyH_ready (rs := [10]) (by kernel_rfl) (by simp) ?_
        refine AllReadyH.cons rfl (fun K hK => ?_) AllReadyH.nil
        have BX := Aside0.mk (below_alloc (Below.refl w2.heap.size w2) (.cells #[.int .i64 p, .slice (some ⟨q2, 0, none⟩) l.length k2] 65))
        have YD := Aside0.mk ((Y.out.drew.move (W' := w2) (fun k _ hl => BB2.out.block k hl) (fun _ h _ => h)).move (W' := w2.alloc (.cells #[.int .i64 p, .slice (some ⟨q2, 0, none⟩) l.length k2] 65)) (fun k _ hl => BX.out.block k hl) (fun _ h _ => h))
        obtain ⟨v3, w3, hr, hD3, hC3, c3, f3⟩ := dev_push YD.out (fun k hk => HF2.out k (Nat.le_trans (Nat.le_trans BB2.out.size BX.out.size) hk)) HN.out p _ l (HB2.out.move (fun k _ _ hh => BX.out.block k (blk_lt hh)) (fun _ h _ => h)) w2.heap.size (heap_alloc_new w2 _)
        obtain ⟨A3, cc3, hv3, -⟩ := hD3.wslice
        obtain ⟨n3, hn3⟩ : ∃ n, n = (S.spent.waits ++ [(p, l)]).length := ⟨_, rfl⟩
        obtain rfl : v3 = .slice A3 n3 cc3 := by rw [hn3]; exact hv3
        clear hn3 hv3
        have HD3 := Aside0.mk hD3
        have HC3 := Aside0.mk ((C.out.drew.trans (Chg.of BB2.out)).trans ((Chg.of BX.out).trans hC3))
        refine step_append_ran rfl (.tmp 25) (.tmp 30) 59 rfl _ _ _ rfl rfl hr ?_
        clear hr hD3 hC3
        refine hK.out _ _ trivial (fun hNew => ?_)
        clear hK K hNew
        refine wpAnyH_take (i := 11) (oi := _) (v := _) rfl (by kernel_rfl) (by kernel_rfl) (by kernel_rfl) (fun _ _ _ h => h) (Or.inl ⟨by rfl, by (intro w hSw; (try dsimp only at hSw); go_simp; try with_reducible rfl)⟩) hHeld ?_
        simp only [Act.put, List.getElem_toArray, List.getElem_cons_zero, List.getElem_cons_succ, List.setIfInBounds_toArray, List.set_cons_zero, List.set_cons_succ]
        refine wpAnyH_take (i := 12) (oi := _) (v := _) rfl (by kernel_rfl) (by kernel_rfl) (by kernel_rfl) (fun _ _ _ h => h) (Or.inl ⟨by rfl, by (intro w hSw; (try dsimp only at hSw); go_simp; try with_reducible rfl)⟩) hHeld ?_
        simp only [Act.put, List.getElem_toArray, List.getElem_cons_zero, List.getElem_cons_succ, List.setIfInBounds_toArray, List.set_cons_zero, List.set_cons_succ]
        refine wpAnyH_ready (rs := [13]) (by kernel_rfl) (by simp) ?_
        refine AllReadyH.cons rfl (fun K hK => ?_) AllReadyH.nil
        go_simp
        refine hK.out _ _ trivial (fun hNew => ?_)
        clear hK K hNew
        refine wpAnyH_done (by kernel_rfl) ?_ _
        go_wp2_with fail
        go_ret
        rw [HW.out, if_neg hs]
        exact ⟨rfl, ⟨_, _, HD3.out⟩, HC3.out⟩
      · go_simp
        go_wp2_with fail
        refine (clone_calls HB.out (by rw [← HL.out]; decide) (by rw [← HL.out]; decide) HF2.out).mono ?_
        rintro e w2 ⟨v2, rfl, hb2, hB2⟩
        have HB2 := Aside0.mk hb2
        have BB2 := Aside0.mk hB2
        obtain ⟨q2, k2, rfl, -, -, -, -⟩ := hb2.reads
        have c2 : w2.cell? ⟨g, 1, none⟩ = some vw := below_cell hB2 c1
        have c4 := below_cell (below_alloc (Below.refl w2.heap.size w2) (.cells #[.int .i64 p, .slice (some ⟨q2, 0, none⟩) l.length k2] 65)) c2
        clear hb2 hB2
        go_wp2_with fail
        refine hK.out _ _ trivial (fun hNew => ?_)
        clear hK K hNew
        refine wpAnyH_take (i := 8) (oi := _) (v := _) rfl (by kernel_rfl) (by kernel_rfl) (by kernel_rfl) (fun _ _ _ h => h) (Or.inl ⟨by rfl, by (intro w hSw; (try dsimp only at hSw); go_simp; try with_reducible rfl)⟩) hHeld ?_
        simp only [Act.put, List.getElem_toArray, List.getElem_cons_zero, List.getElem_cons_succ, List.setIfInBounds_toArray, List.set_cons_zero, List.set_cons_succ]
        refine wpAnyH_ready (rs := [4, 9]) (by kernel_rfl) (by simp) ?_
        refine (AllReadyH.cons rfl (fun K hK => ?_) (AllReadyH.cons rfl (fun K hK => ?_) AllReadyH.nil))
        · go_simp
          refine hK.out _ _ trivial (fun hNew => ?_)
          clear hK K hNew
          refine wpAnyH_ready (rs := [9]) (by kernel_rfl) (by simp) ?_
          refine AllReadyH.cons rfl (fun K hK => ?_) AllReadyH.nil
          go_simp
          refine hK.out _ _ trivial (fun hNew => ?_)
          clear hK K hNew
          refine wpAnyH_ready (rs := [10]) (by kernel_rfl) (by simp) ?_
          refine AllReadyH.cons rfl (fun K hK => ?_) AllReadyH.nil
          have BX := Aside0.mk (below_alloc (Below.refl w2.heap.size w2) (.cells #[.int .i64 p, .slice (some ⟨q2, 0, none⟩) l.length k2] 65))
          have YD := Aside0.mk ((Y.out.drew.move (W' := w2) (fun k _ hl => BB2.out.block k hl) (fun _ h _ => h)).move (W' := w2.alloc (.cells #[.int .i64 p, .slice (some ⟨q2, 0, none⟩) l.length k2] 65)) (fun k _ hl => BX.out.block k hl) (fun _ h _ => h))
          obtain ⟨v3, w3, hr, hD3, hC3, c3, f3⟩ := dev_push YD.out (fun k hk => HF2.out k (Nat.le_trans (Nat.le_trans BB2.out.size BX.out.size) hk)) HN.out p _ l (HB2.out.move (fun k _ _ hh => BX.out.block k (blk_lt hh)) (fun _ h _ => h)) w2.heap.size (heap_alloc_new w2 _)
          obtain ⟨A3, cc3, hv3, -⟩ := hD3.wslice
          obtain ⟨n3, hn3⟩ : ∃ n, n = (S.spent.waits ++ [(p, l)]).length := ⟨_, rfl⟩
          obtain rfl : v3 = .slice A3 n3 cc3 := by rw [hn3]; exact hv3
          clear hn3 hv3
          have HD3 := Aside0.mk hD3
          have HC3 := Aside0.mk ((C.out.drew.trans (Chg.of BB2.out)).trans ((Chg.of BX.out).trans hC3))
          refine step_append_ran rfl (.tmp 25) (.tmp 30) 59 rfl _ _ _ rfl rfl hr ?_
          clear hr hD3 hC3
          refine hK.out _ _ trivial (fun hNew => ?_)
          clear hK K hNew
          refine wpAnyH_take (i := 11) (oi := _) (v := _) rfl (by kernel_rfl) (by kernel_rfl) (by kernel_rfl) (fun _ _ _ h => h) (Or.inl ⟨by rfl, by (intro w hSw; (try dsimp only at hSw); go_simp; try with_reducible rfl)⟩) hHeld ?_
          simp only [Act.put, List.getElem_toArray, List.getElem_cons_zero, List.getElem_cons_succ, List.setIfInBounds_toArray, List.set_cons_zero, List.set_cons_succ]
          refine wpAnyH_take (i := 12) (oi := _) (v := _) rfl (by kernel_rfl) (by kernel_rfl) (by kernel_rfl) (fun _ _ _ h => h) (Or.inl ⟨by rfl, by (intro w hSw; (try dsimp only at hSw); go_simp; try with_reducible rfl)⟩) hHeld ?_
          simp only [Act.put, List.getElem_toArray, List.getElem_cons_zero, List.getElem_cons_succ, List.setIfInBounds_toArray, List.set_cons_zero, List.set_cons_succ]
          refine wpAnyH_ready (rs := [13]) (by kernel_rfl) (by simp) ?_
          refine AllReadyH.cons rfl (fun K hK => ?_) AllReadyH.nil
          go_simp
          refine hK.out _ _ trivial (fun hNew => ?_)
          clear hK K hNew
          refine wpAnyH_done (by kernel_rfl) ?_ _
          go_wp2_with fail
          go_ret
          rw [HW.out, if_neg hs]
          exact ⟨rfl, ⟨_, _, HD3.out⟩, HC3.out⟩
        · go_simp
          refine hK.out _ _ trivial (fun hNew => ?_)
          clear hK K hNew
          refine wpAnyH_ready (rs := [4]) (by kernel_rfl) (by simp) ?_
          refine AllReadyH.cons rfl (fun K hK => ?_) AllReadyH.nil
          go_simp
          refine hK.out _ _ trivial (fun hNew => ?_)
          clear hK K hNew
          refine wpAnyH_ready (rs := [10]) (by kernel_rfl) (by simp) ?_
          refine AllReadyH.cons rfl (fun K hK => ?_) AllReadyH.nil
          have BX := Aside0.mk (below_alloc (Below.refl w2.heap.size w2) (.cells #[.int .i64 p, .slice (some ⟨q2, 0, none⟩) l.length k2] 65))
          have YD := Aside0.mk ((Y.out.drew.move (W' := w2) (fun k _ hl => BB2.out.block k hl) (fun _ h _ => h)).move (W' := w2.alloc (.cells #[.int .i64 p, .slice (some ⟨q2, 0, none⟩) l.length k2] 65)) (fun k _ hl => BX.out.block k hl) (fun _ h _ => h))
          obtain ⟨v3, w3, hr, hD3, hC3, c3, f3⟩ := dev_push YD.out (fun k hk => HF2.out k (Nat.le_trans (Nat.le_trans BB2.out.size BX.out.size) hk)) HN.out p _ l (HB2.out.move (fun k _ _ hh => BX.out.block k (blk_lt hh)) (fun _ h _ => h)) w2.heap.size (heap_alloc_new w2 _)
          obtain ⟨A3, cc3, hv3, -⟩ := hD3.wslice
          obtain ⟨n3, hn3⟩ : ∃ n, n = (S.spent.waits ++ [(p, l)]).length := ⟨_, rfl⟩
          obtain rfl : v3 = .slice A3 n3 cc3 := by rw [hn3]; exact hv3
          clear hn3 hv3
          have HD3 := Aside0.mk hD3
          have HC3 := Aside0.mk ((C.out.drew.trans (Chg.of BB2.out)).trans ((Chg.of BX.out).trans hC3))
          refine step_append_ran rfl (.tmp 25) (.tmp 30) 59 rfl _ _ _ rfl rfl hr ?_
          clear hr hD3 hC3
          refine hK.out _ _ trivial (fun hNew => ?_)
          clear hK K hNew
          refine wpAnyH_take (i := 11) (oi := _) (v := _) rfl (by kernel_rfl) (by kernel_rfl) (by kernel_rfl) (fun _ _ _ h => h) (Or.inl ⟨by rfl, by (intro w hSw; (try dsimp only at hSw); go_simp; try with_reducible rfl)⟩) hHeld ?_
          simp only [Act.put, List.getElem_toArray, List.getElem_cons_zero, List.getElem_cons_succ, List.setIfInBounds_toArray, List.set_cons_zero, List.set_cons_succ]
          refine wpAnyH_take (i := 12) (oi := _) (v := _) rfl (by kernel_rfl) (by kernel_rfl) (by kernel_rfl) (fun _ _ _ h => h) (Or.inl ⟨by rfl, by (intro w hSw; (try dsimp only at hSw); go_simp; try with_reducible rfl)⟩) hHeld ?_
          simp only [Act.put, List.getElem_toArray, List.getElem_cons_zero, List.getElem_cons_succ, List.setIfInBounds_toArray, List.set_cons_zero, List.set_cons_succ]
          refine wpAnyH_ready (rs := [13]) (by kernel_rfl) (by simp) ?_
          refine AllReadyH.cons rfl (fun K hK => ?_) AllReadyH.nil
          go_simp
          refine hK.out _ _ trivial (fun hNew => ?_)
          clear hK K hNew
          refine wpAnyH_done (by kernel_rfl) ?_ _
          go_wp2_with fail
          go_ret
          rw [HW.out, if_neg hs]
          exact ⟨rfl, ⟨_, _, HD3.out⟩, HC3.out⟩
  · have hw1 : S.write p l = (S, 1) := by
      unfold FSt.write
      rw [if_neg]
      intro hh
      rw [Bool.and_eq_true, ← HY.out, ← HL.out] at hh
      exact hg ⟨hh.1, by simpa using hh.2⟩
    by_cases hy : y = true
    · have h2 : ((n : Int) != 256) = true := by
        simp only [bne_iff_ne, ne_eq]
        intro e
        exact hg ⟨hy, by omega⟩
      rw [hy]
      go_wp2_with fail
      go_ret
      rw [hw1]
      exact ⟨rfl, ⟨_, _, X.out⟩, Chg.refl _ _⟩
    · have hy' : y = false := by simpa using hy
      rw [hy']
      go_wp2_with fail
      go_ret
      rw [hw1]
      exact ⟨rfl, ⟨_, _, X.out⟩, Chg.refl _ _⟩
end Go.Proofs.Ytgakjpnfbgmjjaa.PA
