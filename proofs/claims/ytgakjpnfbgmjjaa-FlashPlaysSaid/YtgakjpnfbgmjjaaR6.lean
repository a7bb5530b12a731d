import Derived.Test.YtgakjpnfbgmjjaaR5
import Derived.RangeFuncBox
import Derived.RangeFuncLeaves
import Derived.RangeFuncNested
import Derived.RangeFuncBound
import Derived.RangeFuncCalls
import Derived.Shelf.Abstract
import Derived.WalkKit
import Derived.OwnWalkIn
import Derived.TacticsInMore
import Derived.LoopNIn
import Derived.LoopIn
import Derived.Deep.Slices
import Derived.SizedLaws
import Derived.IntWalk
import Derived.ArgAppend
namespace Go.Proofs.Ytgakjpnfbgmjjaa.PA
open Go.RowKit Go.Proofs.YtgakjpnfbgmjjaaW.PrintWords Go.Proofs.YtgakjpnfbgmjjaaW.PrintLast Go.Proofs.YtgakjpnfbgmjjaaW.PrintMore
set_option linter.unusedVariables false
set_option linter.unusedSimpArgs false
/-! ### The document's device made new -/
theorem info4 : (Try.prog.info? 4).map (fun i => (i.zero, i.size, i.bytes)) = some (some (.bool false), 1, 1) := by kernel_rfl
theorem info9' : (Try.prog.info? 9).map (fun i => (i.zero, i.size, i.bytes)) = some (some (.string ⟨#[]⟩), 1, 16) := by kernel_rfl
theorem cisternref01_noughts_val : cisternref01_noughts.f = some (strOfNums noughts) := by
  unfold cisternref01_noughts.f
  rw [if_pos (by decide)]
  rfl
structure RNew (W : World) (G : Nat → Prop) (r : Nat) (vl vt : Value) (i n : Nat) : Prop where
  hr : W.heap[r]? = some (.cells #[vl, vt, .slice none 0 0, .bool false, .int .i64 (-1)] 55 (0, 0))
  hl : Kd.string.R 9 W 0 G vl (List.replicate i (strOfNums noughts))
  ht : Kd.bool.R 4 W 0 G vt (List.replicate n false)
theorem rnew_push {W : World} {G : Nat → Prop} {r : Nat} {vl vt : Value} {i n : Nat} (h : RNew W G r vl vt i n) (gr : G r) (hG : ∀ k, W.heap.size ≤ k → G k) (hi : i ≤ 4096) (B : Nat) (hB : W.heap[B]? = some (.cells #[.string (strOfNums noughts)] 9 (0, 0))) :
    ∃ A m c w', (Builtin.append_ #[52, 52] 52 #[vl, .slice (some ⟨B, 0, none⟩) 1 1]).run Try.prog W = .ok (.slice A m c) w' ∧ RNew (w'.setCell ⟨r, 0, none⟩ (.slice A m c)) G r (.slice A m c) vt (i + 1) n ∧ Chg G W (w'.setCell ⟨r, 0, none⟩ (.slice A m c)) ∧ w'.cell? ⟨r, 0, none⟩ = some vl ∧ w'.frozen? ⟨r, 0, none⟩ = false := by
  obtain ⟨inf, hi1, hz, hs, hby⟩ := info_parts info9'
  obtain ⟨h0, inner, hw1, hre⟩ := h.hl
  rw [List.length_replicate] at hw1
  obtain ⟨v', w', hr, ho, hg, hf⟩ := run_append_own2 (P := Try.prog) W 0 52 52 9 inf _ 1 16 Try.underlying52 hi1 hz hs hby rfl (by decide) vl i inner hw1 ⟨B, 0, none⟩ 1 1 [.string (strOfNums noughts)] rfl
    (fun j u hu => by
      rw [add_plain, blk_cell hB]
      rw [← Array.getElem?_toList]
      exact hu)
    (by intro u hu; simp at hu; subst hu; rfl) (by decide) (by simp only [maxLen]; omega) (by omega) (Nat.zero_le _)
  have hrb : w'.heap[r]? = some (.cells #[vl, vt, .slice none 0 0, .bool false, .int .i64 (-1)] 55 (0, 0)) := (hg.block r (blk_lt h.hr) (fun e => by
    obtain ⟨c, hc⟩ := own_typed hw1 r e.symm
    exact blk_ne h.hr hc (by decide) rfl)).trans h.hr
  have hat : v'.ownBlock = vl.ownBlock ∨ ∃ b, v'.ownBlock = some b ∧ W.heap.size ≤ b := by
    rcases ho.2 with ⟨_, hx⟩ | ⟨g, cap, cur, rfl, _⟩
    · omega
    · rcases hf g rfl with h1 | h1
      · exact .inl h1.symm
      · exact .inr ⟨g, rfl, h1⟩
  have hl2 : Kd.string.R 9 w' 0 G v' (List.replicate (i + 1) (strOfNums noughts)) := by
    rw [List.replicate_succ']
    exact Kd.R_appended (d := Kd.string) (okp := fun _ => False) h0 hre (show Kd.string.M W 0 (fun _ => False) (strOfNums noughts) [.string (strOfNums noughts)] from rfl) (fun k hk => hk.elim) hG (by rw [List.length_replicate]; exact ho) hg hat
  obtain ⟨A, m, c, rfl⟩ : ∃ A m c, v' = .slice A m c := by
    obtain ⟨A, c, e⟩ := Kd.R_slice hl2
    exact ⟨_, _, _, e⟩
  have ht2 : Kd.bool.R 4 w' 0 G vt (List.replicate n false) := R_other h.ht hw1 (by intro q hq; simp [Kd.bool, Kd.scalar] at hq; omega) hg
  refine ⟨A, m, c, w', hr, ⟨heap_setCell_same w' r 0 _ 55 _ hrb, Kd.R_set hl2 hrb (by intro q hq; simp [Kd.string, Kd.scalar] at hq; omega) 0 _, Kd.R_set ht2 hrb (by intro q hq; simp [Kd.bool, Kd.scalar] at hq; omega) 0 _⟩, ?_, (blk_cell hrb 0).trans rfl, blk_frozen hrb 0⟩
  have hgc : Chg G W w' := ⟨hg.os, hg.tape, hg.output, hg.size, fun k hk hn => hg.block k hk (fun e => hn (h0 k e.symm))⟩
  exact hgc.setCell (p := ⟨r, 0, none⟩) gr _
theorem RNew.move {W W' : World} {G : Nat → Prop} {r : Nat} {vl vt : Value} {i n : Nat} (h : RNew W G r vl vt i n) (gr : G r) (hm : ∀ k, G k → k < W.heap.size → W'.heap[k]? = W.heap[k]?) : RNew W' G r vl vt i n :=
  ⟨(hm r gr (blk_lt h.hr)).trans h.hr, R_go h.hl hm (fun _ h _ => h), R_go h.ht hm (fun _ h _ => h)⟩
theorem RNew.done {W : World} {G : Nat → Prop} {r : Nat} {vl vt : Value} {n : Nat} (h : RNew W G r vl vt n n) (gr : G r) : RDev W G r (.new n) := by
  refine ⟨vl, vt, .slice none 0 0, gr, h.hr, ⟨?_, ?_, Kd.R_nil _ _ _ _ _⟩⟩
  · have := h.hl
    rw [show List.replicate n (strOfNums noughts) = (FSt.new n).secs.map secStr by simp [FSt.new, secStr]] at this
    exact this
  · have := h.ht
    rw [show List.replicate n false = (FSt.new n).secs.map (·.2) by simp [FSt.new]] at this
    exact this
theorem bools_made {W : World} {G : Nat → Prop} (n : Nat) (hn : n ≤ 4096) (hG : G W.heap.size) : Kd.bool.R 4 (W.alloc (.cells (madeCells #[.bool false] n) 4)) 0 G (.slice (some ⟨W.heap.size, 0, none⟩) n n) (List.replicate n false) := by
  refine Kd.R_of_own (enc := Value.bool) (h1 := fun _ => rfl) ⟨by simp [encs], .inr ⟨W.heap.size, n, _, by rw [List.length_replicate], Nat.zero_le _, heap_alloc_new W _, by rw [List.length_replicate]; exact Nat.le_refl _, by simp only [maxLen]; omega, by rw [size_madeCells, Nat.mul_one], ?_⟩⟩ (fun k hk => ?_)
  · rw [List.length_replicate, Nat.mul_one]
    apply List.ext_getElem
    · simp [encs, size_madeCells]
    · intro i h1 h2
      simp [encs, madeCells, Nat.mod_one]
  · simp only [Value.ownBlock, Option.some.injEq] at hk
    subst hk
    exact hG
set_option maxHeartbeats 4000000 in
theorem ref_clear {W : World} {G : Nat → Prop} {r : Nat} {Al At Aw : Option Addr} {ll lt lw cl ct cw : Nat} {o : Bool} {a : Int} (hr : W.heap[r]? = some (.cells #[.slice Al ll cl, .slice At lt ct, .slice Aw lw cw, .bool o, .int .i64 a] 55 (0, 0))) (gr : G r) (hG : ∀ k, W.heap.size ≤ k → G k) (n : Nat) (hn : n ≤ 4096) :
    Calls Try.prog 29 #[.pointer (some ⟨r, 0, none⟩), .int .i64 (n : Int)] W fun e W' => e = .returned (.tuple #[]) ∧ RDev W' G r (.new n) ∧ Chg G W W' := by
  have GR := Aside0.mk gr
  have HG := Aside0.mk hG
  have HR := Aside0.mk hr
  clear gr hG hr
  go_enter Try.func29, Try.ntmps29
  go_wp2_with fail
  refine wp_region_held_drew (S := fun _ => True) (by kernel_rfl) trivial (fun hHeld => ?_)
  obtain ⟨V, hV⟩ : ∃ V, V = W.drew := ⟨_, rfl⟩
  rw [← hV]
  have hr : V.heap[r]? = some (.cells #[.slice Al ll cl, .slice At lt ct, .slice Aw lw cw, .bool o, .int .i64 a] 55 (0, 0)) := by rw [hV]; exact HR.out
  have hG : ∀ k, V.heap.size ≤ k → G k := by rw [hV]; exact HG.out
  have CV : Chg G W V := by rw [hV]; exact (Chg.refl G W).drew
  obtain ⟨inf, hi1, hz, hs, hby⟩ := info_parts info4
  have mk := run_make (P := Try.prog) V 23 4 inf _ Try.underlying23 hi1 hz .i64 .i64 (n : Int) (n : Int) (by omega) (by omega) (by rw [hby]; omega) (by omega)
  have mk2 := run_make (P := Try.prog) (V.setCell ⟨r, 0, none⟩ (.slice none 0 0)) 23 4 inf _ Try.underlying23 hi1 hz .i64 .i64 (n : Int) (n : Int) (by omega) (by omega) (by rw [hby]; omega) (by omega)
  have hsV : (V.setCell ⟨r, 0, none⟩ (.slice none 0 0)).heap.size = V.heap.size := by simp [World.setCell]
  rw [Int.toNat_natCast, hs, Nat.mul_one] at mk mk2
  rw [hsV] at mk2
  have h4 : ∀ q, q ∈ 4 :: Kd.bool.E → q ≠ 55 := by intro q hq; simp [Kd.bool, Kd.scalar] at hq; omega
  have b0 := (blk_cell hr 0).trans rfl
  have f0 := blk_frozen hr 0
  have hBa := below_alloc (Below.refl V.heap.size V) (.cells (madeCells #[.bool false] n) 4)
  have hra := (hBa.block r (blk_lt hr)).trans hr
  have bmA := bools_made (W := V) (G := G) n hn (hG _ (Nat.le_refl _))
  have y0 := heap_setCell_same V r 0 _ 55 (.slice none 0 0) hr
  have hBb := below_alloc (Below.refl (V.setCell ⟨r, 0, none⟩ (.slice none 0 0)).heap.size (V.setCell ⟨r, 0, none⟩ (.slice none 0 0))) (.cells (madeCells #[.bool false] n) 4)
  have hrb := (hBb.block r (blk_lt y0)).trans y0
  have bmB := bools_made (W := (V.setCell ⟨r, 0, none⟩ (.slice none 0 0))) (G := G) n hn (by rw [hsV]; exact hG _ (Nat.le_refl _))
  rw [hsV] at bmB
  have ac0 := (blk_cell hra 0).trans rfl
  have af0 := blk_frozen hra 0
  have az0 := heap_setCell_same _ r 0 _ 55 (.slice none 0 0) hra
  have ac1 := (blk_cell az0 1).trans rfl
  have af1 := blk_frozen az0 1
  have az1 := heap_setCell_same _ r 1 _ 55 (.slice (some ⟨V.heap.size, 0, none⟩) n n) az0
  have ac2 := (blk_cell az1 2).trans rfl
  have af2 := blk_frozen az1 2
  have az2 := heap_setCell_same _ r 2 _ 55 (.slice none 0 0) az1
  have ac3 := (blk_cell az2 3).trans rfl
  have af3 := blk_frozen az2 3
  have az3 := heap_setCell_same _ r 3 _ 55 (.bool false) az2
  have ac4 := (blk_cell az3 4).trans rfl
  have af4 := blk_frozen az3 4
  have az4 := heap_setCell_same _ r 4 _ 55 (.int .i64 (-1)) az3
  have aN : Aside0 (RNew ((((((V.alloc (.cells (madeCells #[.bool false] n) 4)).setCell ⟨r, 0, none⟩ (.slice none 0 0)).setCell ⟨r, 1, none⟩ (.slice (some ⟨V.heap.size, 0, none⟩) n n)).setCell ⟨r, 2, none⟩ (.slice none 0 0)).setCell ⟨r, 3, none⟩ (.bool false)).setCell ⟨r, 4, none⟩ (.int .i64 (-1))) G r (.slice none 0 0) (.slice (some ⟨V.heap.size, 0, none⟩) n n) 0 n) := ⟨⟨az4, Kd.R_nil _ _ _ _ _, (Kd.R_set (Kd.R_set (Kd.R_set (Kd.R_set (Kd.R_set bmA hra h4 0 (.slice none 0 0)) az0 h4 1 (.slice (some ⟨V.heap.size, 0, none⟩) n n)) az1 h4 2 (.slice none 0 0)) az2 h4 3 (.bool false)) az3 h4 4 (.int .i64 (-1)))⟩⟩
  have bc1 := (blk_cell hrb 1).trans rfl
  have bf1 := blk_frozen hrb 1
  have bz1 := heap_setCell_same _ r 1 _ 55 (.slice (some ⟨V.heap.size, 0, none⟩) n n) hrb
  have bc2 := (blk_cell bz1 2).trans rfl
  have bf2 := blk_frozen bz1 2
  have bz2 := heap_setCell_same _ r 2 _ 55 (.slice none 0 0) bz1
  have bc3 := (blk_cell bz2 3).trans rfl
  have bf3 := blk_frozen bz2 3
  have bz3 := heap_setCell_same _ r 3 _ 55 (.bool false) bz2
  have bc4 := (blk_cell bz3 4).trans rfl
  have bf4 := blk_frozen bz3 4
  have bz4 := heap_setCell_same _ r 4 _ 55 (.int .i64 (-1)) bz3
  have bN : Aside0 (RNew ((((((V.setCell ⟨r, 0, none⟩ (.slice none 0 0)).alloc (.cells (madeCells #[.bool false] n) 4)).setCell ⟨r, 1, none⟩ (.slice (some ⟨V.heap.size, 0, none⟩) n n)).setCell ⟨r, 2, none⟩ (.slice none 0 0)).setCell ⟨r, 3, none⟩ (.bool false)).setCell ⟨r, 4, none⟩ (.int .i64 (-1))) G r (.slice none 0 0) (.slice (some ⟨V.heap.size, 0, none⟩) n n) 0 n) := ⟨⟨bz4, Kd.R_nil _ _ _ _ _, (Kd.R_set (Kd.R_set (Kd.R_set (Kd.R_set bmB hrb h4 1 (.slice (some ⟨V.heap.size, 0, none⟩) n n)) bz1 h4 2 (.slice none 0 0)) bz2 h4 3 (.bool false)) bz3 h4 4 (.int .i64 (-1)))⟩⟩
  have aC := Aside0.mk ((((((CV.trans (Chg.of (F := G) hBa)).setCell (p := ⟨r, 0, none⟩) GR.out (.slice none 0 0)).setCell (p := ⟨r, 1, none⟩) GR.out (.slice (some ⟨V.heap.size, 0, none⟩) n n)).setCell (p := ⟨r, 2, none⟩) GR.out (.slice none 0 0)).setCell (p := ⟨r, 3, none⟩) GR.out (.bool false)).setCell (p := ⟨r, 4, none⟩) GR.out (.int .i64 (-1)))
  have bC := Aside0.mk ((((((CV.setCell (p := ⟨r, 0, none⟩) GR.out (.slice none 0 0)).trans (Chg.of (F := G) hBb)).setCell (p := ⟨r, 1, none⟩) GR.out (.slice (some ⟨V.heap.size, 0, none⟩) n n)).setCell (p := ⟨r, 2, none⟩) GR.out (.slice none 0 0)).setCell (p := ⟨r, 3, none⟩) GR.out (.bool false)).setCell (p := ⟨r, 4, none⟩) GR.out (.int .i64 (-1)))
  have SV : Aside0 (W.heap.size ≤ V.heap.size) := ⟨CV.size⟩
  clear hV hr hG CV hi1 hz hs hby h4 hBa hra bmA y0 hBb hrb bmB hsV az0 az1 az2 az3 az4 bz1 bz2 bz3 bz4
  refine wpAnyH_take (i := 0) (oi := _) (v := _) rfl (by kernel_rfl) (by kernel_rfl) (by kernel_rfl) (fun _ _ _ h => h) (Or.inl ⟨by rfl, by (intro w hSw; (try dsimp only at hSw); go_simp; try with_reducible rfl)⟩) hHeld ?_
  simp only [Act.put, List.getElem_toArray, List.getElem_cons_zero, List.getElem_cons_succ, List.setIfInBounds_toArray, List.set_cons_zero, List.set_cons_succ]
  refine wpAnyH_take (i := 1) (oi := _) (v := _) rfl (by kernel_rfl) (by kernel_rfl) (by kernel_rfl) (fun _ _ _ h => h) (Or.inl ⟨by rfl, by (intro w hSw; (try dsimp only at hSw); go_simp; try with_reducible rfl)⟩) hHeld ?_
  simp only [Act.put, List.getElem_toArray, List.getElem_cons_zero, List.getElem_cons_succ, List.setIfInBounds_toArray, List.set_cons_zero, List.set_cons_succ]
  refine wpAnyH_take (i := 2) (oi := _) (v := _) rfl (by kernel_rfl) (by kernel_rfl) (by kernel_rfl) (fun _ _ _ h => h) (Or.inl ⟨by rfl, by (intro w hSw; (try dsimp only at hSw); go_simp; try with_reducible rfl)⟩) hHeld ?_
  simp only [Act.put, List.getElem_toArray, List.getElem_cons_zero, List.getElem_cons_succ, List.setIfInBounds_toArray, List.set_cons_zero, List.set_cons_succ]
  refine wpAnyH_take (i := 3) (oi := _) (v := _) rfl (by kernel_rfl) (by kernel_rfl) (by kernel_rfl) (fun _ _ _ h => h) (Or.inl ⟨by rfl, by (intro w hSw; (try dsimp only at hSw); go_simp; try with_reducible rfl)⟩) hHeld ?_
  simp only [Act.put, List.getElem_toArray, List.getElem_cons_zero, List.getElem_cons_succ, List.setIfInBounds_toArray, List.set_cons_zero, List.set_cons_succ]
  refine wpAnyH_take (i := 4) (oi := _) (v := _) rfl (by kernel_rfl) (by kernel_rfl) (by kernel_rfl) (fun _ _ _ h => h) (Or.inl ⟨by rfl, by (intro w hSw; (try dsimp only at hSw); go_simp; try with_reducible rfl)⟩) hHeld ?_
  simp only [Act.put, List.getElem_toArray, List.getElem_cons_zero, List.getElem_cons_succ, List.setIfInBounds_toArray, List.set_cons_zero, List.set_cons_succ]
  refine wpAnyH_take (i := 5) (oi := _) (v := _) rfl (by kernel_rfl) (by kernel_rfl) (by kernel_rfl) (fun _ _ _ h => h) (Or.inl ⟨by rfl, by (intro w hSw; (try dsimp only at hSw); go_simp; try with_reducible rfl)⟩) hHeld ?_
  simp only [Act.put, List.getElem_toArray, List.getElem_cons_zero, List.getElem_cons_succ, List.setIfInBounds_toArray, List.set_cons_zero, List.set_cons_succ]
  refine wpAnyH_take (i := 7) (oi := _) (v := _) rfl (by kernel_rfl) (by kernel_rfl) (by kernel_rfl) (fun _ _ _ h => h) (Or.inl ⟨by rfl, by (intro w hSw; (try dsimp only at hSw); go_simp; try with_reducible rfl)⟩) hHeld ?_
  simp only [Act.put, List.getElem_toArray, List.getElem_cons_zero, List.getElem_cons_succ, List.setIfInBounds_toArray, List.set_cons_zero, List.set_cons_succ]
  refine wpAnyH_take (i := 8) (oi := _) (v := _) rfl (by kernel_rfl) (by kernel_rfl) (by kernel_rfl) (fun _ _ _ h => h) (Or.inl ⟨by rfl, by (intro w hSw; (try dsimp only at hSw); go_simp; try with_reducible rfl)⟩) hHeld ?_
  simp only [Act.put, List.getElem_toArray, List.getElem_cons_zero, List.getElem_cons_succ, List.setIfInBounds_toArray, List.set_cons_zero, List.set_cons_succ]
  refine wpAnyH_ready (rs := [6, 9]) (by kernel_rfl) (by simp) ?_
  refine (AllReadyH.cons rfl (fun K hK => ?_) (AllReadyH.cons rfl (fun K hK => ?_) AllReadyH.nil))
  · go_simp
    refine hK.out _ _ trivial (fun hNew => ?_)
    clear hK K hNew
    refine wpAnyH_ready (rs := [9]) (by kernel_rfl) (by simp) ?_
    refine AllReadyH.cons rfl (fun K hK => ?_) AllReadyH.nil
    go_simp
    refine hK.out _ _ trivial (fun hNew => ?_)
    clear hK K hNew
    refine wpAnyH_take (i := 10) (oi := _) (v := _) rfl (by kernel_rfl) (by kernel_rfl) (by kernel_rfl) (fun _ _ _ h => h) (Or.inl ⟨by rfl, by (intro w hSw; (try dsimp only at hSw); go_simp; try with_reducible rfl)⟩) hHeld ?_
    simp only [Act.put, List.getElem_toArray, List.getElem_cons_zero, List.getElem_cons_succ, List.setIfInBounds_toArray, List.set_cons_zero, List.set_cons_succ]
    refine wpAnyH_take (i := 11) (oi := _) (v := _) rfl (by kernel_rfl) (by kernel_rfl) (by kernel_rfl) (fun _ _ _ h => h) (Or.inl ⟨by rfl, by (intro w hSw; (try dsimp only at hSw); go_simp; try with_reducible rfl)⟩) hHeld ?_
    simp only [Act.put, List.getElem_toArray, List.getElem_cons_zero, List.getElem_cons_succ, List.setIfInBounds_toArray, List.set_cons_zero, List.set_cons_succ]
    refine wpAnyH_ready (rs := [12]) (by kernel_rfl) (by simp) ?_
    refine AllReadyH.cons rfl (fun K hK => ?_) AllReadyH.nil
    go_simp
    refine hK.out _ _ trivial (fun hNew => ?_)
    clear hK K hNew
    refine wpAnyH_take (i := 13) (oi := _) (v := _) rfl (by kernel_rfl) (by kernel_rfl) (by kernel_rfl) (fun _ _ _ h => h) (Or.inl ⟨by rfl, by (intro w hSw; (try dsimp only at hSw); go_simp; try with_reducible rfl)⟩) hHeld ?_
    simp only [Act.put, List.getElem_toArray, List.getElem_cons_zero, List.getElem_cons_succ, List.setIfInBounds_toArray, List.set_cons_zero, List.set_cons_succ]
    refine wpAnyH_take (i := 14) (oi := _) (v := _) rfl (by kernel_rfl) (by kernel_rfl) (by kernel_rfl) (fun _ _ _ h => h) (Or.inl ⟨by rfl, by (intro w hSw; (try dsimp only at hSw); go_simp; try with_reducible rfl)⟩) hHeld ?_
    simp only [Act.put, List.getElem_toArray, List.getElem_cons_zero, List.getElem_cons_succ, List.setIfInBounds_toArray, List.set_cons_zero, List.set_cons_succ]
    refine wpAnyH_ready (rs := [15]) (by kernel_rfl) (by simp) ?_
    refine AllReadyH.cons rfl (fun K hK => ?_) AllReadyH.nil
    go_simp
    refine hK.out _ _ trivial (fun hNew => ?_)
    clear hK K hNew
    refine wpAnyH_take (i := 16) (oi := _) (v := _) rfl (by kernel_rfl) (by kernel_rfl) (by kernel_rfl) (fun _ _ _ h => h) (Or.inl ⟨by rfl, by (intro w hSw; (try dsimp only at hSw); go_simp; try with_reducible rfl)⟩) hHeld ?_
    simp only [Act.put, List.getElem_toArray, List.getElem_cons_zero, List.getElem_cons_succ, List.setIfInBounds_toArray, List.set_cons_zero, List.set_cons_succ]
    refine wpAnyH_take (i := 17) (oi := _) (v := _) rfl (by kernel_rfl) (by kernel_rfl) (by kernel_rfl) (fun _ _ _ h => h) (Or.inl ⟨by rfl, by (intro w hSw; (try dsimp only at hSw); go_simp; try with_reducible rfl)⟩) hHeld ?_
    simp only [Act.put, List.getElem_toArray, List.getElem_cons_zero, List.getElem_cons_succ, List.setIfInBounds_toArray, List.set_cons_zero, List.set_cons_succ]
    refine wpAnyH_ready (rs := [18]) (by kernel_rfl) (by simp) ?_
    refine AllReadyH.cons rfl (fun K hK => ?_) AllReadyH.nil
    go_simp
    refine hK.out _ _ trivial (fun hNew => ?_)
    clear hK K hNew
    refine wpAnyH_take (i := 19) (oi := _) (v := _) rfl (by kernel_rfl) (by kernel_rfl) (by kernel_rfl) (fun _ _ _ h => h) (Or.inl ⟨by rfl, by (intro w hSw; (try dsimp only at hSw); go_simp; try with_reducible rfl)⟩) hHeld ?_
    simp only [Act.put, List.getElem_toArray, List.getElem_cons_zero, List.getElem_cons_succ, List.setIfInBounds_toArray, List.set_cons_zero, List.set_cons_succ]
    refine wpAnyH_take (i := 20) (oi := _) (v := _) rfl (by kernel_rfl) (by kernel_rfl) (by kernel_rfl) (fun _ _ _ h => h) (Or.inl ⟨by rfl, by (intro w hSw; (try dsimp only at hSw); go_simp; try with_reducible rfl)⟩) hHeld ?_
    simp only [Act.put, List.getElem_toArray, List.getElem_cons_zero, List.getElem_cons_succ, List.setIfInBounds_toArray, List.set_cons_zero, List.set_cons_succ]
    refine wpAnyH_ready (rs := [21]) (by kernel_rfl) (by simp) ?_
    refine AllReadyH.cons rfl (fun K hK => ?_) AllReadyH.nil
    go_simp
    refine hK.out _ _ trivial (fun hNew => ?_)
    clear hK K hNew
    refine wpAnyH_done (by kernel_rfl) ?_ _
    have RN := aN
    have RC := aC
    clear aN bN aC bC mk mk2 b0 f0 ac0 af0 ac1 af1 ac2 af2 ac3 af3 ac4 af4 bc1 bf1 bc2 bf2 bc3 bf3 bc4 bf4
    go_wp2_with fail
    refine (cisternref01_noughts.calls (strOfNums noughts) _ cisternref01_noughts_val).mono ?_
    rintro e w1 ⟨rfl, hB⟩
    have RC1 := Aside0.mk (RC.out.trans (Chg.of (F := G) hB))
    have RN1 := Aside0.mk (RN.out.move GR.out (fun k _ hl => hB.block k hl))
    clear hB RC RN
    obtain ⟨s, hs⟩ : ∃ s, s = strOfNums noughts := ⟨_, rfl⟩
    have HS := Aside0.mk hs
    rw [← hs]
    clear hs
    go_wp2_with fail
    go_loopw [5] (fun v w' => ∃ i : Nat, i ≤ n ∧ v = .int .i64 (i : Int) ∧ ∃ A m c, Aside0 (RNew w' G r (.slice A m c) (.slice (some ⟨V.heap.size, 0, none⟩) n n) i n) ∧ Aside0 (Chg G W w')) (fun v _ => ((n : Int) - intOf v).toNat)
    case atStart => exact ⟨0, Nat.zero_le _, rfl, _, _, _, RN1, RC1⟩
    case round =>
      obtain ⟨i, hi, rfl, A, m, c, YN, YC⟩ := hrel
      clear RN1 RC1
      by_cases hlt : i < n
      · have d1 : decide (i < n) = true := decide_eq_true hlt
        have k0 := (blk_cell YN.out.hr 0).trans rfl
        have hBx := below_alloc (Below.refl wr.heap.size wr) (.cells #[.string s] 9)
        have YX := Aside0.mk (YN.out.move (W' := wr.alloc (.cells #[.string s] 9)) GR.out (fun k _ hl => hBx.block k hl))
        obtain ⟨A3, m3, c3, w3, hr3, hN3, hC3, e3, f3⟩ := rnew_push YX.out GR.out (fun k hk => HG.out k (Nat.le_trans YC.out.size (Nat.le_trans hBx.size hk))) (by omega) wr.heap.size (by rw [← HS.out]; exact heap_alloc_new wr _)
        have HR3 := Aside0.mk hr3
        have N3 := Aside0.mk hN3
        have C3 := Aside0.mk (YC.out.trans ((Chg.of (F := G) hBx).trans hC3))
        have HM := Aside0.mk (msr_dn n i hlt)
        have HW := Aside0.mk (wrap_suc i (by omega))
        clear hr3 hN3 hC3 hBx
        go_wp2_with (first | (at_builtin; refine wpList_append_ran rfl (.tmp 33) (.tmp 35) 52 rfl _ _ _ rfl rfl HR3.out ?_) | fail)
        exact ⟨⟨i + 1, hlt, rfl, _, _, _, N3, C3⟩, HM.out⟩
      · obtain rfl : i = n := by omega
        have d1 : decide (i < i) = false := decide_eq_false (by omega)
        have DN := Aside0.mk (YN.out.done GR.out)
        go_wp2_with fail
        go_end0
        exact ⟨rfl, DN.out, YC.out⟩
  · go_simp
    refine hK.out _ _ trivial (fun hNew => ?_)
    clear hK K hNew
    refine wpAnyH_ready (rs := [6]) (by kernel_rfl) (by simp) ?_
    refine AllReadyH.cons rfl (fun K hK => ?_) AllReadyH.nil
    go_simp
    refine hK.out _ _ trivial (fun hNew => ?_)
    clear hK K hNew
    refine wpAnyH_take (i := 10) (oi := _) (v := _) rfl (by kernel_rfl) (by kernel_rfl) (by kernel_rfl) (fun _ _ _ h => h) (Or.inl ⟨by rfl, by (intro w hSw; (try dsimp only at hSw); go_simp; try with_reducible rfl)⟩) hHeld ?_
    simp only [Act.put, List.getElem_toArray, List.getElem_cons_zero, List.getElem_cons_succ, List.setIfInBounds_toArray, List.set_cons_zero, List.set_cons_succ]
    refine wpAnyH_take (i := 11) (oi := _) (v := _) rfl (by kernel_rfl) (by kernel_rfl) (by kernel_rfl) (fun _ _ _ h => h) (Or.inl ⟨by rfl, by (intro w hSw; (try dsimp only at hSw); go_simp; try with_reducible rfl)⟩) hHeld ?_
    simp only [Act.put, List.getElem_toArray, List.getElem_cons_zero, List.getElem_cons_succ, List.setIfInBounds_toArray, List.set_cons_zero, List.set_cons_succ]
    refine wpAnyH_ready (rs := [12]) (by kernel_rfl) (by simp) ?_
    refine AllReadyH.cons rfl (fun K hK => ?_) AllReadyH.nil
    go_simp
    refine hK.out _ _ trivial (fun hNew => ?_)
    clear hK K hNew
    refine wpAnyH_take (i := 13) (oi := _) (v := _) rfl (by kernel_rfl) (by kernel_rfl) (by kernel_rfl) (fun _ _ _ h => h) (Or.inl ⟨by rfl, by (intro w hSw; (try dsimp only at hSw); go_simp; try with_reducible rfl)⟩) hHeld ?_
    simp only [Act.put, List.getElem_toArray, List.getElem_cons_zero, List.getElem_cons_succ, List.setIfInBounds_toArray, List.set_cons_zero, List.set_cons_succ]
    refine wpAnyH_take (i := 14) (oi := _) (v := _) rfl (by kernel_rfl) (by kernel_rfl) (by kernel_rfl) (fun _ _ _ h => h) (Or.inl ⟨by rfl, by (intro w hSw; (try dsimp only at hSw); go_simp; try with_reducible rfl)⟩) hHeld ?_
    simp only [Act.put, List.getElem_toArray, List.getElem_cons_zero, List.getElem_cons_succ, List.setIfInBounds_toArray, List.set_cons_zero, List.set_cons_succ]
    refine wpAnyH_ready (rs := [15]) (by kernel_rfl) (by simp) ?_
    refine AllReadyH.cons rfl (fun K hK => ?_) AllReadyH.nil
    go_simp
    refine hK.out _ _ trivial (fun hNew => ?_)
    clear hK K hNew
    refine wpAnyH_take (i := 16) (oi := _) (v := _) rfl (by kernel_rfl) (by kernel_rfl) (by kernel_rfl) (fun _ _ _ h => h) (Or.inl ⟨by rfl, by (intro w hSw; (try dsimp only at hSw); go_simp; try with_reducible rfl)⟩) hHeld ?_
    simp only [Act.put, List.getElem_toArray, List.getElem_cons_zero, List.getElem_cons_succ, List.setIfInBounds_toArray, List.set_cons_zero, List.set_cons_succ]
    refine wpAnyH_take (i := 17) (oi := _) (v := _) rfl (by kernel_rfl) (by kernel_rfl) (by kernel_rfl) (fun _ _ _ h => h) (Or.inl ⟨by rfl, by (intro w hSw; (try dsimp only at hSw); go_simp; try with_reducible rfl)⟩) hHeld ?_
    simp only [Act.put, List.getElem_toArray, List.getElem_cons_zero, List.getElem_cons_succ, List.setIfInBounds_toArray, List.set_cons_zero, List.set_cons_succ]
    refine wpAnyH_ready (rs := [18]) (by kernel_rfl) (by simp) ?_
    refine AllReadyH.cons rfl (fun K hK => ?_) AllReadyH.nil
    go_simp
    refine hK.out _ _ trivial (fun hNew => ?_)
    clear hK K hNew
    refine wpAnyH_take (i := 19) (oi := _) (v := _) rfl (by kernel_rfl) (by kernel_rfl) (by kernel_rfl) (fun _ _ _ h => h) (Or.inl ⟨by rfl, by (intro w hSw; (try dsimp only at hSw); go_simp; try with_reducible rfl)⟩) hHeld ?_
    simp only [Act.put, List.getElem_toArray, List.getElem_cons_zero, List.getElem_cons_succ, List.setIfInBounds_toArray, List.set_cons_zero, List.set_cons_succ]
    refine wpAnyH_take (i := 20) (oi := _) (v := _) rfl (by kernel_rfl) (by kernel_rfl) (by kernel_rfl) (fun _ _ _ h => h) (Or.inl ⟨by rfl, by (intro w hSw; (try dsimp only at hSw); go_simp; try with_reducible rfl)⟩) hHeld ?_
    simp only [Act.put, List.getElem_toArray, List.getElem_cons_zero, List.getElem_cons_succ, List.setIfInBounds_toArray, List.set_cons_zero, List.set_cons_succ]
    refine wpAnyH_ready (rs := [21]) (by kernel_rfl) (by simp) ?_
    refine AllReadyH.cons rfl (fun K hK => ?_) AllReadyH.nil
    go_simp
    refine hK.out _ _ trivial (fun hNew => ?_)
    clear hK K hNew
    refine wpAnyH_done (by kernel_rfl) ?_ _
    have RN := bN
    have RC := bC
    clear aN bN aC bC mk mk2 b0 f0 ac0 af0 ac1 af1 ac2 af2 ac3 af3 ac4 af4 bc1 bf1 bc2 bf2 bc3 bf3 bc4 bf4
    go_wp2_with fail
    refine (cisternref01_noughts.calls (strOfNums noughts) _ cisternref01_noughts_val).mono ?_
    rintro e w1 ⟨rfl, hB⟩
    have RC1 := Aside0.mk (RC.out.trans (Chg.of (F := G) hB))
    have RN1 := Aside0.mk (RN.out.move GR.out (fun k _ hl => hB.block k hl))
    clear hB RC RN
    obtain ⟨s, hs⟩ : ∃ s, s = strOfNums noughts := ⟨_, rfl⟩
    have HS := Aside0.mk hs
    rw [← hs]
    clear hs
    go_wp2_with fail
    go_loopw [5] (fun v w' => ∃ i : Nat, i ≤ n ∧ v = .int .i64 (i : Int) ∧ ∃ A m c, Aside0 (RNew w' G r (.slice A m c) (.slice (some ⟨V.heap.size, 0, none⟩) n n) i n) ∧ Aside0 (Chg G W w')) (fun v _ => ((n : Int) - intOf v).toNat)
    case atStart => exact ⟨0, Nat.zero_le _, rfl, _, _, _, RN1, RC1⟩
    case round =>
      obtain ⟨i, hi, rfl, A, m, c, YN, YC⟩ := hrel
      clear RN1 RC1
      by_cases hlt : i < n
      · have d1 : decide (i < n) = true := decide_eq_true hlt
        have k0 := (blk_cell YN.out.hr 0).trans rfl
        have hBx := below_alloc (Below.refl wr.heap.size wr) (.cells #[.string s] 9)
        have YX := Aside0.mk (YN.out.move (W' := wr.alloc (.cells #[.string s] 9)) GR.out (fun k _ hl => hBx.block k hl))
        obtain ⟨A3, m3, c3, w3, hr3, hN3, hC3, e3, f3⟩ := rnew_push YX.out GR.out (fun k hk => HG.out k (Nat.le_trans YC.out.size (Nat.le_trans hBx.size hk))) (by omega) wr.heap.size (by rw [← HS.out]; exact heap_alloc_new wr _)
        have HR3 := Aside0.mk hr3
        have N3 := Aside0.mk hN3
        have C3 := Aside0.mk (YC.out.trans ((Chg.of (F := G) hBx).trans hC3))
        have HM := Aside0.mk (msr_dn n i hlt)
        have HW := Aside0.mk (wrap_suc i (by omega))
        clear hr3 hN3 hC3 hBx
        go_wp2_with (first | (at_builtin; refine wpList_append_ran rfl (.tmp 33) (.tmp 35) 52 rfl _ _ _ rfl rfl HR3.out ?_) | fail)
        exact ⟨⟨i + 1, hlt, rfl, _, _, _, N3, C3⟩, HM.out⟩
      · obtain rfl : i = n := by omega
        have d1 : decide (i < i) = false := decide_eq_false (by omega)
        have DN := Aside0.mk (YN.out.done GR.out)
        go_wp2_with fail
        go_end0
        exact ⟨rfl, DN.out, YC.out⟩
end Go.Proofs.Ytgakjpnfbgmjjaa.PA
