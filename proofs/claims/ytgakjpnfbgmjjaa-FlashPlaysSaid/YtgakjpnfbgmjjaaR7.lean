import Derived.Test.YtgakjpnfbgmjjaaR6
import Derived.RangeFuncBox
import Derived.RangeFuncLeaves
import Derived.RangeFuncNested
import Derived.RangeFuncBound
import Derived.RangeFuncCalls
import Derived.Shelf.Abstract
import Derived.WalkKit
import Derived.OwnWalkIn
import Derived.TacticsInMore
import Derived.LoopNIn
import Derived.LoopIn
import Derived.Deep.Slices
import Derived.SizedLaws
import Derived.IntWalk
import Derived.ArgAppend
namespace Go.Proofs.Ytgakjpnfbgmjjaa.PA
open Go.RowKit Go.Proofs.YtgakjpnfbgmjjaaW.PrintWords Go.Proofs.YtgakjpnfbgmjjaaW.PrintLast Go.Proofs.YtgakjpnfbgmjjaaW.PrintMore
set_option linter.unusedVariables false
set_option linter.unusedSimpArgs false
/-! ### New, Erase -/
set_option maxHeartbeats 1000000 in
theorem ref_new (n : Nat) (h1 : 1 ≤ n) (h2 : n ≤ 4096) (W : World) (x : Int) (hx : x = (n : Int)) :
    Calls Try.prog 21 #[.int .i64 x] W fun e W' => ∃ r, e = .returned (.tuple #[.pointer (some ⟨r, 0, none⟩), .int .i64 0]) ∧ RDev W' (fun k => W.heap.size ≤ k) r (.new n) ∧ Below W.heap.size W W' := by
  subst hx
  have g1 : decide ((n : Int) < 1) = false := decide_eq_false (by omega)
  have g2 : decide (4096 < (n : Int)) = false := decide_eq_false (by omega)
  have HB := Aside0.mk (below_alloc (Below.refl W.heap.size W) (.cells #[.slice none 0 0, .slice none 0 0, .slice none 0 0, .bool false, .int .i64 0] 55))
  have HR := Aside0.mk (heap_alloc_new W (.cells #[.slice none 0 0, .slice none 0 0, .slice none 0 0, .bool false, .int .i64 0] 55))
  go_enter Try.func21, Try.ntmps21
  go_wp2_with fail
  refine (ref_clear (G := fun k => W.heap.size ≤ k) HR.out (Nat.le_refl _) (fun k hk => Nat.le_trans HB.out.size hk) n h2).mono ?_
  rintro e w1 ⟨rfl, hD, hC⟩
  have D := Aside0.mk hD
  have B := Aside0.mk (HB.out.trans (hC.below (B := W.heap.size) HB.out.size (fun _ h => h)))
  clear hD hC
  go_wp2_with fail
  go_ret2
  exact ⟨_, rfl, D.out, B.out⟩
set_option maxHeartbeats 1000000 in
theorem ref_new_bad (n : Int) (h1 : n < 1 ∨ 4096 < n) (W : World) :
    Calls Try.prog 21 #[.int .i64 n] W fun e W' => e = .returned (.tuple #[.pointer none, .int .i64 1]) ∧ W' = W := by
  by_cases h : n < 1
  · have g1 : decide (n < 1) = true := decide_eq_true h
    clear h h1
    go_enter Try.func21, Try.ntmps21
    go_wp2_with fail
    go_ret2
    exact ⟨rfl, rfl⟩
  · have g1 : decide (n < 1) = false := decide_eq_false h
    have g2 : decide (4096 < n) = true := decide_eq_true (by omega)
    clear h h1
    go_enter Try.func21, Try.ntmps21
    go_wp2_with fail
    go_ret2
    exact ⟨rfl, rfl⟩
set_option maxHeartbeats 1000000 in
theorem rdev_erase {W : World} {G : Nat → Prop} {r : Nat} {vl vt vw : Value} {S : FSt} (h : RDevAt W G r vl vt vw S) (hn : S.secs.length ≤ 4096) (hG : ∀ k, W.heap.size ≤ k → G k) :
    Calls Try.prog 35 #[.pointer (some ⟨r, 0, none⟩)] W fun e W' => e = .returned (.tuple #[]) ∧ RDev W' G r (.new S.secs.length) ∧ Chg G W W' := by
  obtain ⟨⟨Al, cl, rfl⟩, ⟨At, ct, rfl⟩, ⟨Aw, cw, rfl⟩⟩ := h.slices
  obtain ⟨c0, -, -, -, -, -⟩ := h.cells
  have X := Aside0.mk h
  have HG := Aside0.mk hG
  obtain ⟨n, hnn⟩ : ∃ n, n = S.secs.length := ⟨_, rfl⟩
  have N := Aside0.mk hnn
  rw [← hnn] at c0 hn
  rw [← hnn]
  clear h hG hnn
  go_enter Try.func35, Try.ntmps35
  go_wp2_with fail
  refine (ref_clear X.out.hr X.out.gr HG.out n hn).mono ?_
  rintro e w1 ⟨rfl, hD, hC⟩
  have D := Aside0.mk hD
  have C := Aside0.mk hC
  clear hD hC
  go_wp2_with fail
  go_end0
  exact ⟨rfl, D.out, C.out⟩
set_option maxHeartbeats 1000000 in
theorem dev_erase {W : World} {F : Nat → Prop} {g : Nat} {S : FSt} (h : Dev W F g S) (hn : S.secs.length ≤ 4096) (hF : ∀ k, W.heap.size ≤ k → F k) :
    Calls Try.prog 23 #[.pointer (some ⟨g, 0, none⟩)] W fun e W' => e = .returned (.tuple #[]) ∧ Dev W' F g (.new S.secs.length) ∧ Chg F W W' := by
  obtain ⟨gs, vw, h⟩ := h
  obtain ⟨A, cc, rfl, _⟩ := h.wslice
  obtain ⟨n, hnn⟩ : ∃ n, n = S.secs.length := ⟨_, rfl⟩
  obtain ⟨m, hmm⟩ : ∃ m, m = S.waits.length := ⟨_, rfl⟩
  have hg0 := h.hg
  rw [← hnn, ← hmm] at hg0
  rw [← hnn] at hn
  rw [← hnn]
  have fg := h.fg
  clear h hnn hmm
  obtain ⟨i, hi, hz, hs, hb⟩ := info_parts info71
  have mk := run_make (P := Try.prog) W 58 71 i _ Try.underlying58 hi hz .i64 .i64 (n : Int) (n : Int) (by omega) (by omega) (by rw [hb]; omega) (by omega)
  rw [Int.toNat_natCast, hs] at mk
  have hBa := below_alloc (Below.refl W.heap.size W) (.cells (madeCells #[.slice none 0 0, .bool false] (n * 2)) 71)
  have hga := (hBa.block g (blk_lt hg0)).trans hg0
  have c0 := (blk_cell hg0 0).trans rfl
  have a0 := (blk_cell hga 0).trans rfl
  have a1 := (blk_cell hga 1).trans rfl
  have a2 := (blk_cell hga 2).trans rfl
  have a3 := (blk_cell hga 3).trans rfl
  have a4 := (blk_cell hga 4).trans rfl
  have g0 := blk_frozen hga 0
  have g1 := blk_frozen hga 1
  have g2 := blk_frozen hga 2
  have g3 := blk_frozen hga 3
  have g4 := blk_frozen hga 4
  have z0 := heap_setCell_same _ g 0 _ 61 (.slice (some ⟨W.heap.size, 0, none⟩) n n) hga
  have z1 := heap_setCell_same _ g 1 _ 61 (.slice none 0 0) z0
  have z2 := heap_setCell_same _ g 2 _ 61 (.bool false) z1
  have z3 := heap_setCell_same _ g 3 _ 61 (.bool false) z2
  have z4 := heap_setCell_same _ g 4 _ 61 (.int .i64 0) z3
  have hgW : g < W.heap.size := blk_lt hg0
  have ZC := Aside0.mk ((((((Chg.of (F := F) hBa).setCell (p := ⟨g, 0, none⟩) fg (.slice (some ⟨W.heap.size, 0, none⟩) n n)).setCell (p := ⟨g, 1, none⟩) fg (.slice none 0 0)).setCell (p := ⟨g, 2, none⟩) fg (.bool false)).setCell (p := ⟨g, 3, none⟩) fg (.bool false)).setCell (p := ⟨g, 4, none⟩) fg (.int .i64 0))
  have ZD : Aside0 (DevAt ((((((W.alloc (.cells (madeCells #[.slice none 0 0, .bool false] (n * 2)) 71)).setCell ⟨g, 0, none⟩ (.slice (some ⟨W.heap.size, 0, none⟩) n n)).setCell ⟨g, 1, none⟩ (.slice none 0 0)).setCell ⟨g, 2, none⟩ (.bool false)).setCell ⟨g, 3, none⟩ (.bool false)).setCell ⟨g, 4, none⟩ (.int .i64 0)) F g W.heap.size (.slice none 0 0) (.new n)) := ⟨by
    refine ⟨fg, hF _ (Nat.le_refl _), ?_, ⟨madeCells #[.slice none 0 0, .bool false] (n * 2), ?_, world_row_zero n⟩, ⟨[], World.ownsRow_nil _ _ _ _, ⟨rfl, by simp [FSt.new], by simp [FSt.new]⟩⟩, fun k hk => by simp [Value.ownBlock] at hk⟩
    · rw [show (FSt.new n).secs.length = n by simp [FSt.new]]
      exact z4
    · rw [Below.heap_setCell _ ⟨g, 4, none⟩ _ _ (by show W.heap.size ≠ g; omega), Below.heap_setCell _ ⟨g, 3, none⟩ _ _ (by show W.heap.size ≠ g; omega), Below.heap_setCell _ ⟨g, 2, none⟩ _ _ (by show W.heap.size ≠ g; omega), Below.heap_setCell _ ⟨g, 1, none⟩ _ _ (by show W.heap.size ≠ g; omega), Below.heap_setCell _ ⟨g, 0, none⟩ _ _ (by show W.heap.size ≠ g; omega)]
      exact heap_alloc_new W _⟩
  have y1 := (blk_cell z0 1).trans rfl
  have y2 := (blk_cell z1 2).trans rfl
  have y3 := (blk_cell z2 3).trans rfl
  have y4 := (blk_cell z3 4).trans rfl
  have x1 := blk_frozen z0 1
  have x2 := blk_frozen z1 2
  have x3 := blk_frozen z2 3
  have x4 := blk_frozen z3 4
  clear hi hz hs hb hBa hga z0 z1 z2 z3 z4 hg0 fg hF hgW
  go_enter Try.func23, Try.ntmps23
  go_wp2_with fail
  go_end0
  exact ⟨rfl, ⟨_, _, ZD.out⟩, ZC.out⟩
end Go.Proofs.Ytgakjpnfbgmjjaa.PA
