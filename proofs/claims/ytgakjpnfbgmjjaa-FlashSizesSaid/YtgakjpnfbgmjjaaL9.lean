import Derived.Test.YtgakjpnfbgmjjaaL8
import Derived.RangeFuncBox
import Derived.RangeFuncLeaves
import Derived.RangeFuncNested
import Derived.RangeFuncBound
import Derived.RangeFuncCalls
import Derived.Shelf.Abstract
import Derived.WalkKit
import Derived.OwnWalkIn
import Derived.TacticsInMore
import Derived.LoopNIn
import Derived.LoopIn
import Derived.Deep.Slices
import Derived.SizedLaws
import Derived.IntWalk
import Derived.ArgAppend
namespace Go.Proofs.Ytgakjpnfbgmjjaa.PA
open Go.RowKit Go.Proofs.YtgakjpnfbgmjjaaW.PrintWords Go.Proofs.YtgakjpnfbgmjjaaW.PrintLast Go.Proofs.YtgakjpnfbgmjjaaW.PrintMore
set_option linter.unusedVariables false
set_option linter.unusedSimpArgs false
/-! ### FlashSizes -/
set_option maxHeartbeats 2000000 in
theorem cisternlaw01_FlashSizes.walk (n p : Int) (w : World) (w0 : (Lit.int .i64 n).wf = true) (w1 : (Lit.int .i64 p).wf = true) :
    Calls Try.prog 4 #[.int .i64 n, .int .i64 p] w fun e w' => e = .returned (.bool true) ∧ Below w.heap.size w w' := by
  clear w0 w1
  go_enter Try.func4, Try.ntmps4
  go_wp2_with fail
  refine (known_calls w).mono ?_
  rintro e wa ⟨rfl, hB⟩
  have BA := Aside0.mk hB
  clear hB
  go_wp2_with fail
  by_cases hn : n < 1 ∨ 4096 < n
  · refine (dev_new_bad n hn wa).mono ?_
    rintro e wb ⟨rfl, rfl⟩
    rcases hn with hn | hn
    · have g1 : decide (n < 1) = true := decide_eq_true hn
      clear hn
      go_wp2_with fail
      go_ret
      exact ⟨rfl, BA.out⟩
    · have g1 : decide (n < 1) = false := decide_eq_false (by omega)
      have g2 : decide (4096 < n) = true := decide_eq_true hn
      clear hn
      go_wp2_with fail
      go_ret
      exact ⟨rfl, BA.out⟩
  · obtain ⟨m, rfl⟩ : ∃ m : Nat, n = (m : Int) := ⟨n.toNat, by omega⟩
    have hm1 : 1 ≤ m := by omega
    have hm2 : m ≤ 4096 := by omega
    have g1 : decide ((m : Int) < 1) = false := decide_eq_false (by omega)
    have g2 : decide (4096 < (m : Int)) = false := decide_eq_false (by omega)
    clear hn
    refine (devB_new m hm1 hm2 wa _ rfl).mono ?_
    rintro e wb ⟨g, rfl, hD, hB⟩
    have DB := Aside0.mk hD
    have BB := Aside0.mk (BA.out.trans (hB.mono BA.out.size))
    have BS := Aside0.mk BA.out.size
    clear hD hB
    by_cases hp1 : 0 ≤ p
    · have d0 : decide (0 ≤ p) = true := decide_eq_true hp1
      by_cases hp2 : p < (m : Int)
      · have d1 : decide (p < (m : Int)) = true := decide_eq_true hp2
        have IN : (FSt.new m).isIn p = true := by rw [FSt.new_isIn]; simp [hp1, hp2]
        have RD : Aside0 ((FSt.new m).read p = (noughts, 0)) := ⟨by rw [FSt.new_read, IN]; rfl⟩
        have WR : Aside0 ((FSt.new m).write p (bytesL 1 0) = (({ FSt.new m with waits := [(p, bytesL 1 0)] } : FSt), 0)) := ⟨by
          rw [FSt.write_on rfl IN (bytesL_len 1)]
          rfl⟩
        clear IN hp1 hp2
        go_wp2_with fail
        refine (devB_read DB.out p _ RD.out).mono ?_
        rintro e wc ⟨A1, c1, rfl, -, hD, hB⟩
        have DC := Aside0.mk hD
        have BC := Aside0.mk (BB.out.trans (hB.mono BB.out.size))
        clear hD hB
        rw [noughts_len]
        go_wp2_with fail
        refine (devB_size DC.out m (by simp [FSt.new])).mono ?_
        rintro e w2 ⟨rfl, rfl⟩
        go_wp2_with fail
        refine (bytes_calls 1 0 _).mono ?_
        rintro e wd ⟨A2, c2, rfl, hb, hB⟩
        rw [bytesN_zero] at hb ⊢
        have X2 := Aside0.mk (hb (by decide))
        have BD := Aside0.mk (BC.out.trans (hB.mono BC.out.size))
        have DD := Aside0.mk (DC.out.below hB)
        clear hb hB
        go_wp2_with fail
        refine (devB_write DD.out (by simp [FSt.new]) p A2 256 c2 (bytesL 1 0) (bytesL_len 1).symm (fun _ => X2.out.move (fun _ _ _ _ => rfl) (fun _ _ _ => trivial))).mono ?_
        rintro e we ⟨rfl, hD, hB⟩
        rw [WR.out] at hD ⊢
        have DE := Aside0.mk hD
        have BE := Aside0.mk (BD.out.trans (hB.mono (Nat.le_trans BA.out.size (Nat.le_refl _))))
        clear hD hB
        go_wp2_with fail
        refine (bytes_calls 1 1 _).mono ?_
        rintro e wf ⟨A3, c3, rfl, -, hB⟩
        rw [show bytesN 1 = 257 by kernel_rfl]
        have BF := Aside0.mk (BE.out.trans (hB.mono BE.out.size))
        have DF := Aside0.mk (DE.out.below hB)
        clear hB
        have L3 : (bytesL 1 1).length = 257 := by rw [(bytes_val 1 1).2]; kernel_rfl
        have W3 := Aside0.mk (FSt.write_bad (S := ({ FSt.new m with waits := [(p, bytesL 1 0)] } : FSt)) (p := 0) (b := bytesL 1 1) (.inr (by rw [L3]; decide)))
        have L3' := Aside0.mk L3
        clear L3
        go_wp2_with fail
        refine (devB_write DF.out (by simp [FSt.new]) 0 A3 257 c3 (bytesL 1 1) L3'.out.symm (fun h => absurd h (by rw [L3'.out]; decide))).mono ?_
        rintro e wg ⟨rfl, hD, hB⟩
        rw [W3.out] at hD ⊢
        have DG := Aside0.mk hD
        have BG := Aside0.mk (BF.out.trans (hB.mono BA.out.size))
        clear hD hB
        have W4 := Aside0.mk (FSt.write_bad (S := ({ FSt.new m with waits := [(p, bytesL 1 0)] } : FSt)) (p := 0) (b := []) (.inr (by decide)))
        go_wp2_with fail
        refine (devB_write DG.out (by simp [FSt.new]) 0 none 0 0 [] rfl (fun h => absurd h (by decide))).mono ?_
        rintro e wh ⟨rfl, -, hB⟩
        rw [W4.out]
        have BH := Aside0.mk (BG.out.trans (hB.mono BA.out.size))
        clear hB
        go_wp2_with fail
        go_ret
        exact ⟨rfl, BH.out⟩
      · have d1 : decide (p < (m : Int)) = false := decide_eq_false hp2
        have hp : ¬ p < (m : Int) := hp2
        clear hp1 hp2
        have IN : (FSt.new m).isIn p = false := by rw [FSt.new_isIn]; simp [hp]
        have RD : Aside0 ((FSt.new m).read p = ([], 1)) := ⟨by rw [FSt.new_read, IN]; rfl⟩
        have WR : Aside0 ((FSt.new m).write p (bytesL 1 0) = ((FSt.new m), 1)) := ⟨by
          rw [FSt.write_bad (.inl IN)]⟩
        clear IN hp
        go_wp2_with fail
        refine (devB_read DB.out p _ RD.out).mono ?_
        rintro e wc ⟨A1, c1, rfl, -, hD, hB⟩
        have DC := Aside0.mk hD
        have BC := Aside0.mk (BB.out.trans (hB.mono BB.out.size))
        clear hD hB
        go_wp2_with fail
        refine (devB_size DC.out m (by simp [FSt.new])).mono ?_
        rintro e w2 ⟨rfl, rfl⟩
        go_wp2_with fail
        refine (bytes_calls 1 0 _).mono ?_
        rintro e wd ⟨A2, c2, rfl, hb, hB⟩
        rw [bytesN_zero] at hb ⊢
        have X2 := Aside0.mk (hb (by decide))
        have BD := Aside0.mk (BC.out.trans (hB.mono BC.out.size))
        have DD := Aside0.mk (DC.out.below hB)
        clear hb hB
        go_wp2_with fail
        refine (devB_write DD.out (by simp [FSt.new]) p A2 256 c2 (bytesL 1 0) (bytesL_len 1).symm (fun _ => X2.out.move (fun _ _ _ _ => rfl) (fun _ _ _ => trivial))).mono ?_
        rintro e we ⟨rfl, hD, hB⟩
        rw [WR.out] at hD ⊢
        have DE := Aside0.mk hD
        have BE := Aside0.mk (BD.out.trans (hB.mono (Nat.le_trans BA.out.size (Nat.le_refl _))))
        clear hD hB
        go_wp2_with fail
        refine (bytes_calls 1 1 _).mono ?_
        rintro e wf ⟨A3, c3, rfl, -, hB⟩
        rw [show bytesN 1 = 257 by kernel_rfl]
        have BF := Aside0.mk (BE.out.trans (hB.mono BE.out.size))
        have DF := Aside0.mk (DE.out.below hB)
        clear hB
        have L3 : (bytesL 1 1).length = 257 := by rw [(bytes_val 1 1).2]; kernel_rfl
        have W3 := Aside0.mk (FSt.write_bad (S := (FSt.new m)) (p := 0) (b := bytesL 1 1) (.inr (by rw [L3]; decide)))
        have L3' := Aside0.mk L3
        clear L3
        go_wp2_with fail
        refine (devB_write DF.out (by simp [FSt.new]) 0 A3 257 c3 (bytesL 1 1) L3'.out.symm (fun h => absurd h (by rw [L3'.out]; decide))).mono ?_
        rintro e wg ⟨rfl, hD, hB⟩
        rw [W3.out] at hD ⊢
        have DG := Aside0.mk hD
        have BG := Aside0.mk (BF.out.trans (hB.mono BA.out.size))
        clear hD hB
        have W4 := Aside0.mk (FSt.write_bad (S := (FSt.new m)) (p := 0) (b := []) (.inr (by decide)))
        go_wp2_with fail
        refine (devB_write DG.out (by simp [FSt.new]) 0 none 0 0 [] rfl (fun h => absurd h (by decide))).mono ?_
        rintro e wh ⟨rfl, -, hB⟩
        rw [W4.out]
        have BH := Aside0.mk (BG.out.trans (hB.mono BA.out.size))
        clear hB
        go_wp2_with fail
        go_ret
        exact ⟨rfl, BH.out⟩
    · have d0 : decide (0 ≤ p) = false := decide_eq_false hp1
      have hp : ¬ 0 ≤ p := hp1
      clear hp1
      have IN : (FSt.new m).isIn p = false := by rw [FSt.new_isIn]; simp [hp]
      have RD : Aside0 ((FSt.new m).read p = ([], 1)) := ⟨by rw [FSt.new_read, IN]; rfl⟩
      have WR : Aside0 ((FSt.new m).write p (bytesL 1 0) = ((FSt.new m), 1)) := ⟨by
        rw [FSt.write_bad (.inl IN)]⟩
      clear IN hp
      go_wp2_with fail
      refine (devB_read DB.out p _ RD.out).mono ?_
      rintro e wc ⟨A1, c1, rfl, -, hD, hB⟩
      have DC := Aside0.mk hD
      have BC := Aside0.mk (BB.out.trans (hB.mono BB.out.size))
      clear hD hB
      go_wp2_with fail
      refine (devB_size DC.out m (by simp [FSt.new])).mono ?_
      rintro e w2 ⟨rfl, rfl⟩
      go_wp2_with fail
      refine (bytes_calls 1 0 _).mono ?_
      rintro e wd ⟨A2, c2, rfl, hb, hB⟩
      rw [bytesN_zero] at hb ⊢
      have X2 := Aside0.mk (hb (by decide))
      have BD := Aside0.mk (BC.out.trans (hB.mono BC.out.size))
      have DD := Aside0.mk (DC.out.below hB)
      clear hb hB
      go_wp2_with fail
      refine (devB_write DD.out (by simp [FSt.new]) p A2 256 c2 (bytesL 1 0) (bytesL_len 1).symm (fun _ => X2.out.move (fun _ _ _ _ => rfl) (fun _ _ _ => trivial))).mono ?_
      rintro e we ⟨rfl, hD, hB⟩
      rw [WR.out] at hD ⊢
      have DE := Aside0.mk hD
      have BE := Aside0.mk (BD.out.trans (hB.mono (Nat.le_trans BA.out.size (Nat.le_refl _))))
      clear hD hB
      go_wp2_with fail
      refine (bytes_calls 1 1 _).mono ?_
      rintro e wf ⟨A3, c3, rfl, -, hB⟩
      rw [show bytesN 1 = 257 by kernel_rfl]
      have BF := Aside0.mk (BE.out.trans (hB.mono BE.out.size))
      have DF := Aside0.mk (DE.out.below hB)
      clear hB
      have L3 : (bytesL 1 1).length = 257 := by rw [(bytes_val 1 1).2]; kernel_rfl
      have W3 := Aside0.mk (FSt.write_bad (S := (FSt.new m)) (p := 0) (b := bytesL 1 1) (.inr (by rw [L3]; decide)))
      have L3' := Aside0.mk L3
      clear L3
      go_wp2_with fail
      refine (devB_write DF.out (by simp [FSt.new]) 0 A3 257 c3 (bytesL 1 1) L3'.out.symm (fun h => absurd h (by rw [L3'.out]; decide))).mono ?_
      rintro e wg ⟨rfl, hD, hB⟩
      rw [W3.out] at hD ⊢
      have DG := Aside0.mk hD
      have BG := Aside0.mk (BF.out.trans (hB.mono BA.out.size))
      clear hD hB
      have W4 := Aside0.mk (FSt.write_bad (S := (FSt.new m)) (p := 0) (b := []) (.inr (by decide)))
      go_wp2_with fail
      refine (devB_write DG.out (by simp [FSt.new]) 0 none 0 0 [] rfl (fun h => absurd h (by decide))).mono ?_
      rintro e wh ⟨rfl, -, hB⟩
      rw [W4.out]
      have BH := Aside0.mk (BG.out.trans (hB.mono BA.out.size))
      clear hB
      go_wp2_with fail
      go_ret
      exact ⟨rfl, BH.out⟩
end Go.Proofs.Ytgakjpnfbgmjjaa.PA
