import Derived.Test.YtgakjpnfbgmjjaaR2
import Derived.RangeFuncBox
import Derived.RangeFuncLeaves
import Derived.RangeFuncNested
import Derived.RangeFuncBound
import Derived.RangeFuncCalls
import Derived.Shelf.Abstract
import Derived.WalkKit
import Derived.OwnWalkIn
import Derived.TacticsInMore
import Derived.LoopNIn
import Derived.LoopIn
import Derived.Deep.Slices
import Derived.SizedLaws
import Derived.IntWalk
import Derived.ArgAppend
namespace Go.Proofs.Ytgakjpnfbgmjjaa.PA
open Go.RowKit Go.Proofs.YtgakjpnfbgmjjaaW.PrintWords Go.Proofs.YtgakjpnfbgmjjaaW.PrintLast Go.Proofs.YtgakjpnfbgmjjaaW.PrintMore
set_option linter.unusedVariables false
set_option linter.unusedSimpArgs false
/-! ### The document's Write -/
theorem strOfNums_sz (l : List Int) : (strOfNums l).size = l.length := by simp [strOfNums, ByteArray.size]
theorem info78 : (Try.prog.info? 78).map (fun i => (i.zero, i.size, i.bytes)) = some (some (.agg #[.int .i64 0, .string ⟨#[]⟩]), 2, 24) := by kernel_rfl
theorem R_other {α : Type} {d : Kd α} {e : Nat} {W W' : World} {G : Nat → Prop} {v u : Value} {xs : List α} {t size n base : Nat} {ys : List Value} (h : d.R e W 0 G v xs) (ho : W.ownsRow base t size u n ys) (ht : ∀ q, q ∈ e :: d.E → q ≠ t) (hg : W.grownBy W' u.ownBlock) : d.R e W' 0 G v xs :=
  Kd.R_mono (Kd.R_step (Kd.R_bound h) (fun k hk hl => hg.block k hl (fun e' => by
    obtain ⟨_, _, _, q, hq, cells, hc⟩ := hk
    obtain ⟨c, hc'⟩ := own_typed ho k e'.symm
    exact blk_ne hc hc' (ht q hq) rfl))) (fun _ hk => hk.1)
theorem rdev_push {W : World} {G : Nat → Prop} {r : Nat} {vl vt vw : Value} {S : FSt} (h : RDevAt W G r vl vt vw S) (hG : ∀ k, W.heap.size ≤ k → G k) (hn : S.waits.length ≤ 1000000) (p : Int) (b : List Int) (B : Nat) (hB : W.heap[B]? = some (.cells #[.int .i64 p, .string (strOfNums b)] 78 (0, 0))) :
    ∃ A n c w', (Builtin.append_ #[53, 53] 53 #[vw, .slice (some ⟨B, 0, none⟩) 1 1]).run Try.prog W = .ok (.slice A n c) w' ∧ RDevAt (w'.setCell ⟨r, 2, none⟩ (.slice A n c)) G r vl vt (.slice A n c) { S with waits := S.waits ++ [(p, b)] } ∧ Chg G W (w'.setCell ⟨r, 2, none⟩ (.slice A n c)) ∧ w'.cell? ⟨r, 2, none⟩ = some vw ∧ w'.frozen? ⟨r, 2, none⟩ = false := by
  obtain ⟨i, hi, hz, hs, hby⟩ := info_parts info78
  obtain ⟨h0, inner, hw1, hre⟩ := h.rows.hw
  rw [List.length_map] at hw1
  obtain ⟨v', w', hr, ho, hg, hf⟩ := run_append_own2 (P := Try.prog) W 0 53 53 78 i _ 2 24 Try.underlying53 hi hz hs hby rfl (by decide) vw S.waits.length inner hw1 ⟨B, 0, none⟩ 1 1 [.int .i64 p, .string (strOfNums b)] rfl
    (fun j u hu => by
      rw [add_plain, blk_cell hB]
      rw [← Array.getElem?_toList]
      exact hu)
    (by intro u hu; simp at hu; rcases hu with rfl | rfl <;> rfl) (by decide) (by simp only [maxLen]; omega) (by omega) (Nat.zero_le _)
  have hne : ∀ (k : Nat) (cs : Array Value) (t : TypeId), W.heap[k]? = some (.cells cs t (0, 0)) → t ≠ 78 → w'.heap[k]? = W.heap[k]? := fun k cs t hk ht => hg.block k (blk_lt hk) (fun e => by
    obtain ⟨c, hc⟩ := own_typed hw1 k e.symm
    exact blk_ne hk hc ht rfl)
  have hrb := (hne r _ _ h.hr (by decide)).trans h.hr
  have hat : v'.ownBlock = vw.ownBlock ∨ ∃ b, v'.ownBlock = some b ∧ W.heap.size ≤ b := by
    rcases ho.2 with ⟨_, hx⟩ | ⟨g, cap, cur, rfl, _⟩
    · omega
    · rcases hf g rfl with h1 | h1
      · exact .inl h1.symm
      · exact .inr ⟨g, rfl, h1⟩
  have hw2 : k78.R 78 w' 0 G v' ((S.waits ++ [(p, b)]).map fun q => (⟨q.1, strOfNums q.2⟩ : S78)) := by
    rw [List.map_append]
    exact Kd.R_appended (okp := fun _ => False) h0 hre (k78_mkM W 0 (fun _ => False) ⟨p, strOfNums b⟩) (fun k hk => hk.elim) hG (by rw [List.length_map]; exact ho) hg hat
  obtain ⟨A, n, c, rfl⟩ : ∃ A n c, v' = .slice A n c := by
    obtain ⟨A, c, e⟩ := Kd.R_slice hw2
    exact ⟨_, _, _, e⟩
  have hrows : RRows w' G vl vt (.slice A n c) S.secs (S.waits ++ [(p, b)]) := ⟨R_other h.rows.hl hw1 (by intro q hq; simp [Kd.string, Kd.scalar] at hq; omega) hg, R_other h.rows.ht hw1 (by intro q hq; simp [Kd.bool, Kd.scalar] at hq; omega) hg, hw2⟩
  refine ⟨A, n, c, w', hr, ⟨h.gr, heap_setCell_same w' r 2 _ 55 _ hrb, hrows.set hrb 2 _⟩, ?_, (blk_cell hrb 2).trans rfl, blk_frozen hrb 2⟩
  have hgc : Chg G W w' := ⟨hg.os, hg.tape, hg.output, hg.size, fun k hk hn => hg.block k hk (fun e => hn (h0 k e.symm))⟩
  exact hgc.setCell (p := ⟨r, 2, none⟩) h.gr _
set_option maxHeartbeats 2000000 in
theorem rdev_write {W : World} {G : Nat → Prop} {r : Nat} {vl vt vw : Value} {S : FSt} (h : RDevAt W G r vl vt vw S) (hc : S.Cnt) (hwl : S.waits.length ≤ 1000000) (hG : ∀ k, W.heap.size ≤ k → G k) (p : Int) (l : List Int) :
    Calls Try.prog 31 #[.pointer (some ⟨r, 0, none⟩), .int .i64 p, .string (strOfNums l)] W fun e W' => e = .returned (.int .i64 (S.write p l).2) ∧ RDev W' G r (S.write p l).1 ∧ Chg G W W' := by
  obtain ⟨⟨Al, cl, rfl⟩, -, -⟩ := h.slices
  obtain ⟨c0, -, -, -, -, -⟩ := h.cells
  obtain ⟨n, hnn⟩ : ∃ n, n = S.secs.length := ⟨_, rfl⟩
  rw [← hnn] at c0
  have X := Aside0.mk h
  have HC := Aside0.mk hc
  have HG := Aside0.mk hG
  have WL := Aside0.mk hwl
  have N := Aside0.mk hnn
  obtain ⟨s, hs⟩ : ∃ s, s = strOfNums l := ⟨_, rfl⟩
  have hsz : s.size = l.length := by rw [hs]; exact strOfNums_sz l
  have HS := Aside0.mk hs
  have HZ := Aside0.mk hsz
  rw [← hs]
  clear h hc hG hwl hnn hs hsz
  by_cases hbad : S.isIn p = true ∧ l.length = 256
  · obtain ⟨hin, hl⟩ := hbad
    have hin' := FSt.isIn_iff.1 hin
    rw [← N.out] at hin'
    have d0 : decide (p < 0) = false := decide_eq_false (by omega)
    have d1 : decide ((n : Int) ≤ p) = false := decide_eq_false (by omega)
    have e2 : s.size = 256 := by rw [HZ.out]; exact hl
    have hw1 : S.write p l = if S.stops then (S.spent, 4) else ({ S.spent with waits := S.waits ++ [(p, l)] }, 0) := by
      unfold FSt.write
      rw [if_pos (by rw [hin, hl]; rfl)]
    have HW := Aside0.mk hw1
    clear hw1 hin' hl hin
    go_enter Try.func31, Try.ntmps31
    go_wp2_with fail
    refine (rdev_spend X.out HC.out).mono ?_
    rintro e wb ⟨rfl, hD, hO⟩
    have Y := Aside0.mk hD
    have C := Aside0.mk (hO.chg X.out.gr)
    have HG2 : Aside0 (∀ k, wb.heap.size ≤ k → G k) := ⟨fun k hk => HG.out k (by rw [← hO.size]; exact hk)⟩
    by_cases hs : S.stops = true
    · rw [hs]
      clear hD hO
      go_wp2_with fail
      go_ret
      rw [HW.out, if_pos hs]
      exact ⟨rfl, ⟨_, _, _, Y.out⟩, C.out⟩
    · have hs' : S.stops = false := by simpa using hs
      rw [hs']
      obtain ⟨-, -, k2, -, -, -⟩ := hD.cells
      have hB := below_alloc (Below.refl wb.heap.size wb) (.cells #[.int .i64 p, .string s] 78)
      have YD := Aside0.mk (Y.out.move (W' := wb.alloc (.cells #[.int .i64 p, .string s] 78)) (fun k _ hl => hB.block k hl) (fun _ h _ => h))
      obtain ⟨A3, n3, c3, w3, hr, hD3, hC3, e3, f3⟩ := rdev_push YD.out (fun k hk => HG2.out k (Nat.le_trans hB.size hk)) WL.out p l wb.heap.size (by rw [← HS.out]; exact heap_alloc_new wb _)
      have HR := Aside0.mk hr
      have D3 := Aside0.mk hD3
      have C3 := Aside0.mk (C.out.trans ((Chg.of hB).trans hC3))
      clear hD hO hr hD3 hC3 hB
      go_wp2_with (first | (at_builtin; refine wpList_append_ran rfl (.tmp 30) (.tmp 34) 53 rfl _ _ _ rfl rfl HR.out ?_) | fail)
      go_ret
      rw [HW.out, if_neg hs]
      exact ⟨rfl, ⟨_, _, _, D3.out⟩, C3.out⟩
  · have hw1 : S.write p l = (S, 1) := by
      refine FSt.write_bad ?_
      by_cases h1 : S.isIn p = true
      · exact .inr (fun h2 => hbad ⟨h1, h2⟩)
      · exact .inl (by simpa using h1)
    have HW := Aside0.mk hw1
    have hb2 := hbad
    clear hw1 hbad
    by_cases h0 : p < 0
    · have d0 : decide (p < 0) = true := decide_eq_true h0
      go_enter Try.func31, Try.ntmps31
      go_wp2_with fail
      go_ret
      rw [HW.out]
      exact ⟨rfl, ⟨_, _, _, X.out⟩, Chg.refl _ _⟩
    · have d0 : decide (p < 0) = false := decide_eq_false h0
      by_cases h1 : (n : Int) ≤ p
      · have d1 : decide ((n : Int) ≤ p) = true := decide_eq_true h1
        go_enter Try.func31, Try.ntmps31
        go_wp2_with fail
        go_ret
        rw [HW.out]
        exact ⟨rfl, ⟨_, _, _, X.out⟩, Chg.refl _ _⟩
      · have d1 : decide ((n : Int) ≤ p) = false := decide_eq_false h1
        have d2 : ((s.size : Int) != 256) = true := by
          rw [bne_iff_ne]
          intro e
          refine hb2 ⟨FSt.isIn_iff.2 ⟨by omega, by rw [← N.out]; omega⟩, ?_⟩
          have := HZ.out
          omega
        clear hb2
        go_enter Try.func31, Try.ntmps31
        go_wp2_with fail
        go_ret
        rw [HW.out]
        exact ⟨rfl, ⟨_, _, _, X.out⟩, Chg.refl _ _⟩
end Go.Proofs.Ytgakjpnfbgmjjaa.PA
