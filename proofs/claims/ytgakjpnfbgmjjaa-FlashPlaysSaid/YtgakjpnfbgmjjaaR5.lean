import Derived.Test.YtgakjpnfbgmjjaaR4
import Derived.RangeFuncBox
import Derived.RangeFuncLeaves
import Derived.RangeFuncNested
import Derived.RangeFuncBound
import Derived.RangeFuncCalls
import Derived.Shelf.Abstract
import Derived.WalkKit
import Derived.OwnWalkIn
import Derived.TacticsInMore
import Derived.LoopNIn
import Derived.LoopIn
import Derived.Deep.Slices
import Derived.SizedLaws
import Derived.IntWalk
import Derived.ArgAppend
namespace Go.Proofs.Ytgakjpnfbgmjjaa.PA
open Go.RowKit Go.Proofs.YtgakjpnfbgmjjaaW.PrintWords Go.Proofs.YtgakjpnfbgmjjaaW.PrintLast Go.Proofs.YtgakjpnfbgmjjaaW.PrintMore
set_option linter.unusedVariables false
set_option linter.unusedSimpArgs false
/-! ### The document's Crash -/
theorem pickI_zero : pickI 0 = 0 := by kernel_rfl
theorem picks_min (S : FSt) (ks : List Int) : ∀ n, S.picks ks n = S.picks ks (min n ks.length)
  | 0 => by rw [Nat.zero_min]
  | n + 1 => by
    by_cases h : n < ks.length
    · rw [Nat.min_eq_left (by omega)]
    · have e : S.picks ks (n + 1) = S.picks ks n := by
        rw [FSt.picks, show ks[n]?.getD 0 = 0 by rw [List.getElem?_eq_none (by omega)]; rfl, pickI_zero]
        unfold FSt.picked
        rw [if_neg (by decide), if_neg (by decide)]
      rw [e, picks_min S ks n, Nat.min_eq_right (by omega), Nat.min_eq_right (by omega)]
theorem pickAt_eq (ks : List Int) (i : Nat) : pickAt ks i = pickI (ks[i]?.getD 0) := by
  unfold pickAt
  split
  · rfl
  · rw [show ks[i]?.getD 0 = 0 by rw [List.getElem?_eq_none (by omega)]; rfl, pickI_zero]
set_option maxHeartbeats 4000000 in
theorem rdev_crash {W : World} {G : Nat → Prop} {r : Nat} {vl vt vw : Value} {S : FSt} (h : RDevAt W G r vl vt vw S) (hk : S.Ok) (hwl : S.waits.length ≤ 1000000) (hG : ∀ k, W.heap.size ≤ k → G k) (A2 : Option Addr) (c2 : Nat) (ks : List Int) (hp : ∀ W', Chg G W W' → Kd.C (Kd.int .i64) W' A2 ks.length ks) (hc2 : ks.length ≤ c2) :
    Calls Try.prog 34 #[.pointer (some ⟨r, 0, none⟩), .slice A2 ks.length c2] W fun e W' => e = .returned (.tuple #[]) ∧ RDev W' G r (S.crash ks) ∧ Chg G W W' := by
  have K := Aside0.mk hk
  have HG := Aside0.mk hG
  have HP := Aside0.mk hp
  have C2 := Aside0.mk hc2
  obtain ⟨-, -, ⟨A, c, rfl⟩⟩ := h.slices
  obtain ⟨n, hnn⟩ : ∃ n, n = S.waits.length := ⟨_, rfl⟩
  have N := Aside0.mk hnn
  have hn : n ≤ 1000000 := by rw [hnn]; exact hwl
  rw [← hnn] at h
  have X := Aside0.mk h
  clear hnn hwl h hk hG hp hc2
  go_enter Try.func34, Try.ntmps34
  go_wp2_with fail
  go_loopw [4] (fun v w' => ∃ i : Nat, i ≤ n ∧ v = .int .i64 (i : Int) ∧ Aside0 (RDevAt w' G r vl vt (.slice A n c) (S.picks ks i)) ∧ Aside0 (Chg G W w')) (fun v _ => ((n : Int) - intOf v).toNat)
  case atStart => exact ⟨0, Nat.zero_le _, rfl, X, ⟨Chg.refl _ _⟩⟩
  case round =>
    obtain ⟨i, hi, rfl, YD, YC⟩ := hrel
    clear X
    obtain ⟨-, -, c2', -, -, hf⟩ := YD.out.cells
    by_cases hlt : i < n
    · have hlt' : i < S.waits.length := by rw [← N.out]; exact hlt
      obtain ⟨q, c', hv, -, e0, e1⟩ := YD.out.waitAt (FSt.picks_waits _ _ _) i hlt'
      obtain ⟨h0, h1, h2⟩ := K.out.w _ (List.getElem_mem hlt')
      rw [Value.slice.injEq] at hv
      obtain ⟨rfl, hx1, hx2⟩ := hv
      clear hx1 hx2 hf
      obtain ⟨k, hk⟩ : ∃ k : Nat, S.waits[i].1 = (k : Int) := ⟨S.waits[i].1.toNat, by omega⟩
      rw [hk] at e0 h1
      obtain ⟨b, hbb⟩ : ∃ b, b = S.waits[i].2 := ⟨_, rfl⟩
      rw [← hbb] at e1
      have HP2 : Aside0 (S.waits[i]?.getD (0, []) = ((k : Int), b)) := ⟨by rw [List.getElem?_eq_getElem hlt']; exact Prod.ext hk hbb.symm⟩
      obtain ⟨s, hs2⟩ : ∃ s, s = strOfNums b := ⟨_, rfl⟩
      rw [← hs2] at e1
      have SB := Aside0.mk hs2
      obtain ⟨pk, hpk⟩ : ∃ pk, pk = pickAt ks i := ⟨_, rfl⟩
      have HS : Aside0 (S.picks ks (i + 1) = (S.picks ks i).picked ((k : Int), b) pk) := ⟨by rw [FSt.picks, HP2.out, hpk, pickAt_eq]⟩
      have PK := Aside0.mk hpk
      have hkk : Aside0 (k < (S.picks ks i).secs.length) := ⟨by rw [FSt.picks_len]; omega⟩
      have d1 : decide (i < n) = true := decide_eq_true hlt
      have p1 : (0 : Int) ≤ (i : Int) := Int.natCast_nonneg _
      have p2 : (i : Int) < (n : Int) := Int.ofNat_lt.2 hlt
      have HM := Aside0.mk (msr_dn n i hlt)
      have HW := Aside0.mk (wrap_suc i (by omega))
      have BX := Aside0.mk (below_alloc (Below.refl wr.heap.size wr) (.cells #[.int .i64 (k : Int), .string s] 78))
      have CX := Aside0.mk (YC.out.trans (Chg.of (F := G) BX.out))
      have YX := Aside0.mk (YD.out.move (W' := wr.alloc (.cells #[.int .i64 (k : Int), .string s] 78)) (fun k _ hl => BX.out.block k hl) (fun _ h _ => h))
      clear hk h0 h1 h2 hbb hs2 hpk hi
      go_wp2_with fail
      refine (cisternref01_Pick.calls A2 c2 ks (i : Int) pk _ (HP.out _ CX.out) C2.out (by rw [PK.out]; exact pick_val ks i)).mono ?_
      rintro e w4 ⟨rfl, hd⟩
      have B4 := Aside0.mk hd.below
      have C4 := Aside0.mk (CX.out.trans (Chg.of (F := G) hd.below))
      have Y4 := Aside0.mk (YX.out.move (W' := w4) (fun k _ hl => hd.below.block k hl) (fun _ h _ => h))
      have bxh : Aside0 (w4.heap[wr.heap.size]? = some (.cells #[.int .i64 (k : Int), .string s] 78 (0, 0))) := ⟨(hd.below.block _ (by simp)).trans (heap_alloc_new wr _)⟩
      obtain ⟨bx, hbx⟩ : ∃ bx, bx = wr.heap.size := ⟨_, rfl⟩
      rw [← hbx] at bxh ⊢
      clear hd hbx
      obtain ⟨gl, gt, cl, ct, RS⟩ := Y4.out.sec k hkk.out
      have hel := RS.el
      have het := RS.et
      obtain ⟨z, hz⟩ : ∃ z, z = (S.picks ks i).secs.length := ⟨_, rfl⟩
      have hkz : k < z := by rw [hz]; exact hkk.out
      rw [← hz] at hel het
      obtain ⟨c0, c1, -, -, -, -⟩ := Y4.out.cells
      have b0 := (blk_cell bxh.out 0).trans rfl
      have b1 := (blk_cell bxh.out 1).trans rfl
      have nr1 : r ≠ gl := fun e => by
        obtain ⟨ccl, hbl⟩ := RS.bl
        exact blk_ne Y4.out.hr hbl (by decide) e
      have nr2 : r ≠ gt := fun e => by
        obtain ⟨cct, hbt⟩ := RS.bt
        exact blk_ne Y4.out.hr hbt (by decide) e
      have nq1 : bx ≠ gl := fun e => by
        obtain ⟨ccl, hbl⟩ := RS.bl
        exact blk_ne bxh.out hbl (by decide) e
      have nq2 : bx ≠ gt := fun e => by
        obtain ⟨cct, hbt⟩ := RS.bt
        exact blk_ne bxh.out hbt (by decide) e
      subst hel
      subst het
      have TR : ∀ (w1 : World) (a j : Nat) (u : Value), r ≠ a → bx ≠ a → (w1.cell? ⟨r, 0, none⟩ = some (.slice (some ⟨gl, 0, none⟩) z cl) ∧ w1.cell? ⟨r, 1, none⟩ = some (.slice (some ⟨gt, 0, none⟩) z ct) ∧ w1.cell? ⟨bx, 0, none⟩ = some (.int .i64 (k : Int)) ∧ w1.cell? ⟨bx, 1, none⟩ = some (.string s)) → ((w1.setCell ⟨a, j, none⟩ u).cell? ⟨r, 0, none⟩ = some (.slice (some ⟨gl, 0, none⟩) z cl) ∧ (w1.setCell ⟨a, j, none⟩ u).cell? ⟨r, 1, none⟩ = some (.slice (some ⟨gt, 0, none⟩) z ct) ∧ (w1.setCell ⟨a, j, none⟩ u).cell? ⟨bx, 0, none⟩ = some (.int .i64 (k : Int)) ∧ (w1.setCell ⟨a, j, none⟩ u).cell? ⟨bx, 1, none⟩ = some (.string s)) := fun w1 a j u na nb ⟨h1, h2, h3, h4⟩ => by
        have er := fun o => World.cell?_of_block (w := w1) (w' := w1.setCell ⟨a, j, none⟩ u) (a := ⟨r, o, none⟩) (Below.heap_setCell w1 ⟨a, j, none⟩ u r na)
        have eq := fun o => World.cell?_of_block (w := w1) (w' := w1.setCell ⟨a, j, none⟩ u) (a := ⟨bx, o, none⟩) (Below.heap_setCell w1 ⟨a, j, none⟩ u bx nb)
        exact ⟨(er 0).trans h1, (er 1).trans h2, (eq _).trans h3, (eq _).trans h4⟩
      have T0 : Aside0 (w4.cell? ⟨r, 0, none⟩ = some (.slice (some ⟨gl, 0, none⟩) z cl) ∧ w4.cell? ⟨r, 1, none⟩ = some (.slice (some ⟨gt, 0, none⟩) z ct) ∧ w4.cell? ⟨bx, 0, none⟩ = some (.int .i64 (k : Int)) ∧ w4.cell? ⟨bx, 1, none⟩ = some (.string s)) := ⟨⟨c0, c1, b0, b1⟩⟩
      have T1 := Aside0.mk (TR w4 gl k (.string s) nr1 nq1 T0.out)
      have T2 := Aside0.mk (TR _ gt k (.bool false) nr2 nq2 T1.out)
      have T5 := Aside0.mk (TR w4 gt k (.bool true) nr2 nq2 T0.out)
      obtain ⟨x1, m1⟩ := RS.c1
      obtain ⟨x2, m2⟩ := RS.c2
      have f1 := RS.f1
      have f2 := RS.f2
      have p3 : (0 : Int) ≤ (k : Int) := Int.natCast_nonneg _
      have p4 : (k : Int) < (z : Int) := Int.ofNat_lt.2 hkz
      have RSS := Aside0.mk RS
      clear TR nr1 nr2 nq1 nq2 RS hz
      by_cases j1 : pk = 1
      · subst j1
        have m3 : (w4.setCell ⟨gl, k, none⟩ (.string s)).cell? ⟨gt, k, none⟩ = some (.bool x2) := (World.cell?_of_block (w := w4) (a := ⟨gt, k, none⟩) (Below.heap_setCell w4 ⟨gl, k, none⟩ _ gt (fun e => RSS.out.ne e.symm))).trans m2
        have f3 : (w4.setCell ⟨gl, k, none⟩ (.string s)).frozen? ⟨gt, k, none⟩ = false := (World.frozen?_of_block (w := w4) (a := ⟨gt, k, none⟩) (Below.heap_setCell w4 ⟨gl, k, none⟩ _ gt (fun e => RSS.out.ne e.symm))).trans f2
        have PUT : Aside0 (RDevAt ((w4.setCell ⟨gl, k, none⟩ (.string s)).setCell ⟨gt, k, none⟩ (.bool false)).drew G r (.slice (some ⟨gl, 0, none⟩) z cl) (.slice (some ⟨gt, 0, none⟩) z ct) (.slice (some ⟨q, 0, none⟩) n c) (S.picks ks (i + 1))) := ⟨by
          rw [HS.out, SB.out]
          exact (RSS.out.put b).drew⟩
        have CH := Aside0.mk (((C4.out.setCell (p := ⟨gl, k, none⟩) RSS.out.Gl (.string s)).setCell (p := ⟨gt, k, none⟩) RSS.out.Gt (.bool false)).drew)
        go_wp2_with fail
        refine wp_region_held_drew (S := fun w' => w'.cell? ⟨r, 0, none⟩ = some (.slice (some ⟨gl, 0, none⟩) z cl) ∧ w'.cell? ⟨r, 1, none⟩ = some (.slice (some ⟨gt, 0, none⟩) z ct) ∧ w'.cell? ⟨bx, 0, none⟩ = some (.int .i64 (k : Int)) ∧ w'.cell? ⟨bx, 1, none⟩ = some (.string s)) (by kernel_rfl) ?_ (fun hHeld => ?_)
        · try dsimp only
          exact T0.out
        refine wpAnyH_take (i := 0) (oi := _) (v := _) rfl (by kernel_rfl) (by kernel_rfl) (by kernel_rfl) (fun _ _ _ h => h) (Or.inl ⟨by rfl, by (intro w hSw; (try dsimp only at hSw); go_simp; try with_reducible rfl)⟩) hHeld ?_
        simp only [Act.put, List.getElem_toArray, List.getElem_cons_zero, List.getElem_cons_succ, List.setIfInBounds_toArray, List.set_cons_zero, List.set_cons_succ]
        refine wpAnyH_take (i := 1) (oi := _) (v := _) rfl (by kernel_rfl) (by kernel_rfl) (by kernel_rfl) (fun _ _ _ h => h) (Or.inl ⟨by rfl, by (intro w hSw; (try dsimp only at hSw); go_simp; try with_reducible rfl)⟩) hHeld ?_
        simp only [Act.put, List.getElem_toArray, List.getElem_cons_zero, List.getElem_cons_succ, List.setIfInBounds_toArray, List.set_cons_zero, List.set_cons_succ]
        refine wpAnyH_take (i := 2) (oi := _) (v := _) rfl (by kernel_rfl) (by kernel_rfl) (by kernel_rfl) (fun _ _ _ h => h) (Or.inl ⟨by rfl, by (intro w hSw; (try dsimp only at hSw); go_simp; try with_reducible rfl)⟩) hHeld ?_
        simp only [Act.put, List.getElem_toArray, List.getElem_cons_zero, List.getElem_cons_succ, List.setIfInBounds_toArray, List.set_cons_zero, List.set_cons_succ]
        refine wpAnyH_take (i := 3) (oi := _) (v := _) rfl (by kernel_rfl) (by kernel_rfl) (by kernel_rfl) (fun _ _ _ h => h) (Or.inl ⟨by rfl, by (intro w hSw; (try dsimp only at hSw); go_simp; try with_reducible rfl)⟩) hHeld ?_
        simp only [Act.put, List.getElem_toArray, List.getElem_cons_zero, List.getElem_cons_succ, List.setIfInBounds_toArray, List.set_cons_zero, List.set_cons_succ]
        refine wpAnyH_take (i := 4) (oi := _) (v := _) rfl (by kernel_rfl) (by kernel_rfl) (by kernel_rfl) (fun _ _ _ h => h) (Or.inl ⟨by rfl, by (intro w hSw; (try dsimp only at hSw); go_simp; try with_reducible rfl)⟩) hHeld ?_
        simp only [Act.put, List.getElem_toArray, List.getElem_cons_zero, List.getElem_cons_succ, List.setIfInBounds_toArray, List.set_cons_zero, List.set_cons_succ]
        refine wpAnyH_take (i := 5) (oi := _) (v := _) rfl (by kernel_rfl) (by kernel_rfl) (by kernel_rfl) (fun _ _ _ h => h) (Or.inl ⟨by rfl, by (intro w hSw; (try dsimp only at hSw); go_simp; try with_reducible rfl)⟩) hHeld ?_
        simp only [Act.put, List.getElem_toArray, List.getElem_cons_zero, List.getElem_cons_succ, List.setIfInBounds_toArray, List.set_cons_zero, List.set_cons_succ]
        refine wpAnyH_take (i := 6) (oi := _) (v := _) rfl (by kernel_rfl) (by kernel_rfl) (by kernel_rfl) (fun _ _ _ h => h) (Or.inl ⟨by rfl, by (intro w hSw; (try dsimp only at hSw); go_simp; try with_reducible rfl)⟩) hHeld ?_
        simp only [Act.put, List.getElem_toArray, List.getElem_cons_zero, List.getElem_cons_succ, List.setIfInBounds_toArray, List.set_cons_zero, List.set_cons_succ]
        refine wpAnyH_take (i := 7) (oi := _) (v := _) rfl (by kernel_rfl) (by kernel_rfl) (by kernel_rfl) (fun _ _ _ h => h) (Or.inl ⟨by rfl, by (intro w hSw; (try dsimp only at hSw); go_simp; try with_reducible rfl)⟩) hHeld ?_
        simp only [Act.put, List.getElem_toArray, List.getElem_cons_zero, List.getElem_cons_succ, List.setIfInBounds_toArray, List.set_cons_zero, List.set_cons_succ]
        refine wpAnyH_take (i := 8) (oi := _) (v := _) rfl (by kernel_rfl) (by kernel_rfl) (by kernel_rfl) (fun _ _ _ h => h) (Or.inl ⟨by rfl, by (intro w hSw; (try dsimp only at hSw); go_simp; try with_reducible rfl)⟩) hHeld ?_
        simp only [Act.put, List.getElem_toArray, List.getElem_cons_zero, List.getElem_cons_succ, List.setIfInBounds_toArray, List.set_cons_zero, List.set_cons_succ]
        refine wpAnyH_take (i := 9) (oi := _) (v := _) rfl (by kernel_rfl) (by kernel_rfl) (by kernel_rfl) (fun _ _ _ h => h) (Or.inl ⟨by rfl, by (intro w hSw; (try dsimp only at hSw); go_simp; try with_reducible rfl)⟩) hHeld ?_
        simp only [Act.put, List.getElem_toArray, List.getElem_cons_zero, List.getElem_cons_succ, List.setIfInBounds_toArray, List.set_cons_zero, List.set_cons_succ]
        refine wpAnyH_take (i := 10) (oi := _) (v := _) rfl (by kernel_rfl) (by kernel_rfl) (by kernel_rfl) (fun _ _ _ h => h) (Or.inl ⟨by rfl, by (intro w hSw; (try dsimp only at hSw); go_simp; try with_reducible rfl)⟩) hHeld ?_
        simp only [Act.put, List.getElem_toArray, List.getElem_cons_zero, List.getElem_cons_succ, List.setIfInBounds_toArray, List.set_cons_zero, List.set_cons_succ]
        refine wpAnyH_take (i := 11) (oi := _) (v := _) rfl (by kernel_rfl) (by kernel_rfl) (by kernel_rfl) (fun _ _ _ h => h) (Or.inl ⟨by rfl, by (intro w hSw; (try dsimp only at hSw); go_simp; try with_reducible rfl)⟩) hHeld ?_
        simp only [Act.put, List.getElem_toArray, List.getElem_cons_zero, List.getElem_cons_succ, List.setIfInBounds_toArray, List.set_cons_zero, List.set_cons_succ]
        refine wpAnyH_take (i := 12) (oi := _) (v := _) rfl (by kernel_rfl) (by kernel_rfl) (by kernel_rfl) (fun _ _ _ h => h) (Or.inl ⟨by rfl, by (intro w hSw; (try dsimp only at hSw); go_simp; try with_reducible rfl)⟩) hHeld ?_
        simp only [Act.put, List.getElem_toArray, List.getElem_cons_zero, List.getElem_cons_succ, List.setIfInBounds_toArray, List.set_cons_zero, List.set_cons_succ]
        refine wpAnyH_take (i := 13) (oi := _) (v := _) rfl (by kernel_rfl) (by kernel_rfl) (by kernel_rfl) (fun _ _ _ h => h) (Or.inl ⟨by rfl, by (intro w hSw; (try dsimp only at hSw); go_simp; try with_reducible rfl)⟩) hHeld ?_
        simp only [Act.put, List.getElem_toArray, List.getElem_cons_zero, List.getElem_cons_succ, List.setIfInBounds_toArray, List.set_cons_zero, List.set_cons_succ]
        refine wpAnyH_take (i := 14) (oi := _) (v := _) rfl (by kernel_rfl) (by kernel_rfl) (by kernel_rfl) (fun _ _ _ h => h) (Or.inl ⟨by rfl, by (intro w hSw; (try dsimp only at hSw); go_simp; try with_reducible rfl)⟩) hHeld ?_
        simp only [Act.put, List.getElem_toArray, List.getElem_cons_zero, List.getElem_cons_succ, List.setIfInBounds_toArray, List.set_cons_zero, List.set_cons_succ]
        refine wpAnyH_ready (rs := [15]) (by kernel_rfl) (by simp) ?_
        refine AllReadyH.cons rfl (fun K hK => ?_) AllReadyH.nil
        go_simp
        refine hK.out _ _ ?_ (fun hNew => ?_)
        · try dsimp only
          exact T1.out
        clear hK K hHeld
        have hHeld := hNew
        clear hNew
        refine wpAnyH_take (i := 16) (oi := _) (v := _) rfl (by kernel_rfl) (by kernel_rfl) (by kernel_rfl) (fun _ _ _ h => h) (Or.inl ⟨by rfl, by (intro w hSw; (try dsimp only at hSw); go_simp; try with_reducible rfl)⟩) hHeld ?_
        simp only [Act.put, List.getElem_toArray, List.getElem_cons_zero, List.getElem_cons_succ, List.setIfInBounds_toArray, List.set_cons_zero, List.set_cons_succ]
        refine wpAnyH_ready (rs := [17]) (by kernel_rfl) (by simp) ?_
        refine AllReadyH.cons rfl (fun K hK => ?_) AllReadyH.nil
        go_simp
        refine hK.out _ _ ?_ (fun hNew => ?_)
        · try dsimp only
          exact T2.out
        clear hK K hHeld
        have hHeld := hNew
        clear hNew
        refine wpAnyH_done (by kernel_rfl) ?_ _
        go_wp2_with fail
        exact ⟨⟨i + 1, hlt, rfl, PUT, CH⟩, HM.out⟩
      · have g1 : (pk == 1) = false := beq_eq_false_iff_ne.2 j1
        by_cases j2 : pk = 2
        · subst j2
          have PUT : Aside0 (RDevAt (w4.setCell ⟨gt, k, none⟩ (.bool true)).drew G r (.slice (some ⟨gl, 0, none⟩) z cl) (.slice (some ⟨gt, 0, none⟩) z ct) (.slice (some ⟨q, 0, none⟩) n c) (S.picks ks (i + 1))) := ⟨by
            rw [HS.out]
            exact RSS.out.torn.drew⟩
          have CH := Aside0.mk ((C4.out.setCell (p := ⟨gt, k, none⟩) RSS.out.Gt (.bool true)).drew)
          clear j1
          go_wp2_with fail
          refine wp_region_held_drew (S := fun w' => w'.cell? ⟨r, 0, none⟩ = some (.slice (some ⟨gl, 0, none⟩) z cl) ∧ w'.cell? ⟨r, 1, none⟩ = some (.slice (some ⟨gt, 0, none⟩) z ct) ∧ w'.cell? ⟨bx, 0, none⟩ = some (.int .i64 (k : Int)) ∧ w'.cell? ⟨bx, 1, none⟩ = some (.string s)) (by kernel_rfl) ?_ (fun hHeld => ?_)
          · try dsimp only
            exact T0.out
          refine wpAnyH_take (i := 0) (oi := _) (v := _) rfl (by kernel_rfl) (by kernel_rfl) (by kernel_rfl) (fun _ _ _ h => h) (Or.inl ⟨by rfl, by (intro w hSw; (try dsimp only at hSw); go_simp; try with_reducible rfl)⟩) hHeld ?_
          simp only [Act.put, List.getElem_toArray, List.getElem_cons_zero, List.getElem_cons_succ, List.setIfInBounds_toArray, List.set_cons_zero, List.set_cons_succ]
          refine wpAnyH_take (i := 1) (oi := _) (v := _) rfl (by kernel_rfl) (by kernel_rfl) (by kernel_rfl) (fun _ _ _ h => h) (Or.inl ⟨by rfl, by (intro w hSw; (try dsimp only at hSw); go_simp; try with_reducible rfl)⟩) hHeld ?_
          simp only [Act.put, List.getElem_toArray, List.getElem_cons_zero, List.getElem_cons_succ, List.setIfInBounds_toArray, List.set_cons_zero, List.set_cons_succ]
          refine wpAnyH_take (i := 2) (oi := _) (v := _) rfl (by kernel_rfl) (by kernel_rfl) (by kernel_rfl) (fun _ _ _ h => h) (Or.inl ⟨by rfl, by (intro w hSw; (try dsimp only at hSw); go_simp; try with_reducible rfl)⟩) hHeld ?_
          simp only [Act.put, List.getElem_toArray, List.getElem_cons_zero, List.getElem_cons_succ, List.setIfInBounds_toArray, List.set_cons_zero, List.set_cons_succ]
          refine wpAnyH_take (i := 3) (oi := _) (v := _) rfl (by kernel_rfl) (by kernel_rfl) (by kernel_rfl) (fun _ _ _ h => h) (Or.inl ⟨by rfl, by (intro w hSw; (try dsimp only at hSw); go_simp; try with_reducible rfl)⟩) hHeld ?_
          simp only [Act.put, List.getElem_toArray, List.getElem_cons_zero, List.getElem_cons_succ, List.setIfInBounds_toArray, List.set_cons_zero, List.set_cons_succ]
          refine wpAnyH_take (i := 4) (oi := _) (v := _) rfl (by kernel_rfl) (by kernel_rfl) (by kernel_rfl) (fun _ _ _ h => h) (Or.inl ⟨by rfl, by (intro w hSw; (try dsimp only at hSw); go_simp; try with_reducible rfl)⟩) hHeld ?_
          simp only [Act.put, List.getElem_toArray, List.getElem_cons_zero, List.getElem_cons_succ, List.setIfInBounds_toArray, List.set_cons_zero, List.set_cons_succ]
          refine wpAnyH_take (i := 5) (oi := _) (v := _) rfl (by kernel_rfl) (by kernel_rfl) (by kernel_rfl) (fun _ _ _ h => h) (Or.inl ⟨by rfl, by (intro w hSw; (try dsimp only at hSw); go_simp; try with_reducible rfl)⟩) hHeld ?_
          simp only [Act.put, List.getElem_toArray, List.getElem_cons_zero, List.getElem_cons_succ, List.setIfInBounds_toArray, List.set_cons_zero, List.set_cons_succ]
          refine wpAnyH_take (i := 6) (oi := _) (v := _) rfl (by kernel_rfl) (by kernel_rfl) (by kernel_rfl) (fun _ _ _ h => h) (Or.inl ⟨by rfl, by (intro w hSw; (try dsimp only at hSw); go_simp; try with_reducible rfl)⟩) hHeld ?_
          simp only [Act.put, List.getElem_toArray, List.getElem_cons_zero, List.getElem_cons_succ, List.setIfInBounds_toArray, List.set_cons_zero, List.set_cons_succ]
          refine wpAnyH_ready (rs := [7]) (by kernel_rfl) (by simp) ?_
          refine AllReadyH.cons rfl (fun K hK => ?_) AllReadyH.nil
          go_simp
          refine hK.out _ _ ?_ (fun hNew => ?_)
          · try dsimp only
            exact T5.out
          clear hK K hHeld
          have hHeld := hNew
          clear hNew
          refine wpAnyH_done (by kernel_rfl) ?_ _
          go_wp2_with fail
          exact ⟨⟨i + 1, hlt, rfl, PUT, CH⟩, HM.out⟩
        · have g2 : (pk == 2) = false := beq_eq_false_iff_ne.2 j2
          have PUT : Aside0 (RDevAt w4 G r (.slice (some ⟨gl, 0, none⟩) z cl) (.slice (some ⟨gt, 0, none⟩) z ct) (.slice (some ⟨q, 0, none⟩) n c) (S.picks ks (i + 1))) := ⟨by
            rw [HS.out]
            unfold FSt.picked
            rw [if_neg j1, if_neg j2]
            exact Y4.out⟩
          clear j1 j2
          go_wp2_with fail
          exact ⟨⟨i + 1, hlt, rfl, PUT, C4⟩, HM.out⟩
    · obtain rfl : i = n := by omega
      have hw : S.picks ks i = S.picks ks (min S.waits.length ks.length) := by rw [picks_min, N.out]
      rw [hw] at YD
      obtain ⟨-, -, k2, k3, k4, hf'⟩ := YD.out.cells
      have f2 := hf' 2
      have f3 := hf' 3
      have f4 := hf' 4
      have d1 : decide (i < i) = false := decide_eq_false (by omega)
      have Z : Aside0 (RDevAt (((wr.setCell ⟨r, 2, none⟩ (.slice none 0 0)).setCell ⟨r, 3, none⟩ (.bool false)).setCell ⟨r, 4, none⟩ (.int .i64 (-1))) G r vl vt (.slice none 0 0) (S.crash ks)) := ⟨by
        have z1 := YD.out.nowaits
        have z2 := heap_setCell_same _ r 3 _ 55 (.bool false) z1.hr
        have z3 := heap_setCell_same _ r 4 _ 55 (.int .i64 (-1)) z2
        exact ⟨z1.gr, z3, (z1.rows.set z1.hr 3 _).set z2 4 _⟩⟩
      have ZC := Aside0.mk (((YC.out.setCell (p := ⟨r, 2, none⟩) YD.out.gr (.slice none 0 0)).setCell (p := ⟨r, 3, none⟩) YD.out.gr (.bool false)).setCell (p := ⟨r, 4, none⟩) YD.out.gr (.int .i64 (-1)))
      clear hf hf' hw hlt hi
      go_wp2_with fail
      go_end0
      exact ⟨rfl, ⟨_, _, _, Z.out⟩, ZC.out⟩

end Go.Proofs.Ytgakjpnfbgmjjaa.PA
