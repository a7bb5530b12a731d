import Derived.Test.YtgakjpnfbgmjjaaR1
import Derived.RangeFuncBox
import Derived.RangeFuncLeaves
import Derived.RangeFuncNested
import Derived.RangeFuncBound
import Derived.RangeFuncCalls
import Derived.Shelf.Abstract
import Derived.WalkKit
import Derived.OwnWalkIn
import Derived.TacticsInMore
import Derived.LoopNIn
import Derived.LoopIn
import Derived.Deep.Slices
import Derived.SizedLaws
import Derived.IntWalk
import Derived.ArgAppend
namespace Go.Proofs.Ytgakjpnfbgmjjaa.PA
open Go.RowKit Go.Proofs.YtgakjpnfbgmjjaaW.PrintWords Go.Proofs.YtgakjpnfbgmjjaaW.PrintLast Go.Proofs.YtgakjpnfbgmjjaaW.PrintMore
set_option linter.unusedVariables false
set_option linter.unusedSimpArgs false
/-! ### The document's Read -/
theorem found_last (l : List (Int × List Int)) (p : Int) (i : Nat) (hi : i < l.length) (h1 : l[i].1 = p) (h2 : ∀ j (hj : j < l.length), i < j → l[j].1 ≠ p) : l.reverse.find? (fun q => q.1 == p) = some l[i] := by
  have e : l = l.take i ++ l[i] :: l.drop (i + 1) := by
    rw [List.getElem_cons_drop hi, List.take_append_drop]
  have er : l.reverse = (l.drop (i + 1)).reverse ++ l[i] :: (l.take i).reverse := by
    conv => lhs; rw [e]
    simp
  rw [er]
  refine find_first _ _ _ _ (fun y hy => ?_) (by simpa using h1)
  obtain ⟨k, hk, rfl⟩ := List.getElem_of_mem (List.mem_reverse.1 hy)
  rw [List.length_drop] at hk
  rw [List.getElem_drop]
  have := h2 (i + 1 + k) (by omega) (by omega)
  simpa using this
theorem found_no (l : List (Int × List Int)) (p : Int) (h : ∀ j (hj : j < l.length), l[j].1 ≠ p) : l.reverse.find? (fun q => q.1 == p) = none := by
  rw [List.find?_eq_none]
  intro q hq
  obtain ⟨k, hk, rfl⟩ := List.getElem_of_mem (List.mem_reverse.1 hq)
  simpa using h k hk
theorem str_nil : strOfNums [] = ⟨#[]⟩ := rfl
set_option maxHeartbeats 2000000 in
theorem rdev_read {W : World} {G : Nat → Prop} {r : Nat} {vl vt vw : Value} {S : FSt} (h : RDevAt W G r vl vt vw S) (hn : S.secs.length ≤ 4096) (hwl : S.waits.length ≤ 1000000) (p : Int) :
    Calls Try.prog 30 #[.pointer (some ⟨r, 0, none⟩), .int .i64 p] W fun e W' => e = .returned (.tuple #[.string (strOfNums (S.read p).1), .int .i64 (S.read p).2]) ∧ W' = W := by
  obtain ⟨⟨Al, cl, rfl⟩, ⟨At, ct, rfl⟩, ⟨Aw, cw, rfl⟩⟩ := h.slices
  obtain ⟨c0, c1, c2, c3, -, -⟩ := h.cells
  have HL := Aside0.mk (Kd.R_reads' h.rows.hl).2.2
  have HT := Aside0.mk (Kd.R_reads' h.rows.ht).2.2
  have HW := Aside0.mk (Kd.R_reads' h.rows.hw).2.2
  simp only [List.length_map] at HL HT HW
  obtain ⟨n, hnn⟩ : ∃ n, n = S.secs.length := ⟨_, rfl⟩
  obtain ⟨m, hmm⟩ : ∃ m, m = S.waits.length := ⟨_, rfl⟩
  rw [← hnn] at c0 c1 HL HT hn
  rw [← hmm] at c2 HW hwl
  have N := Aside0.mk hnn
  have M := Aside0.mk hmm
  clear h hnn hmm
  by_cases h0 : p < 0
  · have d0 : decide (p < 0) = true := decide_eq_true h0
    have R1 : Aside0 (S.read p = ([], 1)) := ⟨by unfold FSt.read; rw [if_neg (by rw [FSt.isIn_iff]; omega)]⟩
    go_enter Try.func30, Try.ntmps30
    go_wp2_with fail
    go_ret2
    rw [R1.out]
    exact ⟨rfl, rfl⟩
  · have d0 : decide (p < 0) = false := decide_eq_false h0
    by_cases h1 : (n : Int) ≤ p
    · have d1 : decide ((n : Int) ≤ p) = true := decide_eq_true h1
      have R1 : Aside0 (S.read p = ([], 1)) := ⟨by unfold FSt.read; rw [if_neg (by rw [FSt.isIn_iff, ← N.out]; omega)]⟩
      go_enter Try.func30, Try.ntmps30
      go_wp2_with fail
      go_ret2
      rw [R1.out]
      exact ⟨rfl, rfl⟩
    · have d1 : decide ((n : Int) ≤ p) = false := decide_eq_false h1
      obtain ⟨k, rfl⟩ : ∃ k : Nat, p = (k : Int) := ⟨p.toNat, by omega⟩
      have IN : Aside0 (S.isIn (k : Int) = true) := ⟨FSt.isIn_iff.2 ⟨by omega, by rw [← N.out]; omega⟩⟩
      by_cases ho : S.off = true
      · rw [ho] at c3
        have R1 : Aside0 (S.read (k : Int) = ([], 4)) := ⟨by unfold FSt.read; rw [if_pos IN.out, if_pos ho]⟩
        clear ho
        go_enter Try.func30, Try.ntmps30
        go_wp2_with fail
        go_ret2
        rw [R1.out]
        exact ⟨rfl, rfl⟩
      · have ho' : S.off = false := by simpa using ho
        rw [ho'] at c3
        have HO := Aside0.mk ho
        have p1 : (0 : Int) ≤ (k : Int) := Int.natCast_nonneg _
        have p2 : (k : Int) < (n : Int) := by omega
        have w0 : wrap64 ((m : Int) - 1) = (m : Int) - 1 := by unfold wrap64; omega
        have P2 := Aside0.mk p2
        clear ho h0 h1
        go_enter Try.func30, Try.ntmps30
        go_wp2_with fail
        go_loop [6] (fun v => ∃ t : Nat, t ≤ m ∧ v = .int .i64 ((m : Int) - 1 - (t : Int)) ∧ Aside0 (∀ j (hj : j < S.waits.length), m - t ≤ j → S.waits[j].1 ≠ (k : Int))) (fun v => (intOf v + 1).toNat)
        case atStart => exact ⟨0, Nat.zero_le _, by simp, ⟨fun j hj h => by have := M.out; omega⟩⟩
        case round =>
          obtain ⟨t, ht, rfl, HA⟩ := hrel
          by_cases hlt : t < m
          · obtain ⟨i, hi⟩ : ∃ i : Nat, i = m - 1 - t := ⟨_, rfl⟩
            have e1 : (m : Int) - 1 - (t : Int) = (i : Int) := by omega
            have him : i < m := by omega
            rw [e1]
            obtain ⟨ad, hA, k1, k2⟩ := at_T78 HW.out (i : Int) (by omega) (by omega)
            rw [Int.toNat_natCast] at k1 k2
            have hil : i < S.waits.length := by rw [← M.out]; exact him
            have hrd : rd_T78 (S.waits.map fun q => (⟨q.1, strOfNums q.2⟩ : S78)) (i : Int) = ⟨S.waits[i].1, strOfNums S.waits[i].2⟩ := by simp [rd_T78, hil]
            rw [hrd] at k1 k2
            obtain ⟨z, hz⟩ : ∃ z, z = S.waits[i].1 := ⟨_, rfl⟩
            have Z := Aside0.mk hz
            rw [← hz] at k1
            subst hA
            have q1 : (0 : Int) ≤ (i : Int) := Int.natCast_nonneg _
            have q2 : (i : Int) < (m : Int) := Int.ofNat_lt.2 him
            have w1 : wrap64 ((i : Int) - 1) = (i : Int) - 1 := by unfold wrap64; omega
            have HE := Aside0.mk (show (i : Int) - 1 = (m : Int) - 1 - ((t + 1 : Nat) : Int) by omega)
            have HI := Aside0.mk hi
            have HT2 := Aside0.mk hlt
            clear hz hrd e1 hi hlt
            by_cases hzk : z = (k : Int)
            · have f1 : (z == (k : Int)) = true := beq_iff_eq.2 hzk
              have R1 : Aside0 (S.read (k : Int) = (S.waits[i].2, 0)) := ⟨by
                have := found_last S.waits (k : Int) i hil (Z.out.symm.trans hzk) (fun j hj h => HA.out j hj (by have := HI.out; omega))
                unfold FSt.read FSt.found
                rw [if_pos IN.out, if_neg HO.out, this]⟩
              clear hzk
              go_wp2_with fail
              go_ret2
              rw [R1.out]
              exact ⟨rfl, rfl⟩
            · have f1 : (z == (k : Int)) = false := beq_eq_false_iff_ne.2 hzk
              have HA2 : Aside0 (∀ j (hj : j < S.waits.length), m - (t + 1) ≤ j → S.waits[j].1 ≠ (k : Int)) := ⟨fun j hj h => by
                by_cases e : j = i
                · subst e
                  rw [← Z.out]
                  exact hzk
                · exact HA.out j hj (by have := HI.out; omega)⟩
              clear hzk
              go_wp2_with fail
              refine ⟨⟨t + 1, HT2.out, by rw [← HE.out], HA2⟩, ?_⟩
              simp [intOf]
          · obtain rfl : t = m := by omega
            have d2 : decide (0 ≤ (t : Int) - 1 - (t : Int)) = false := decide_eq_false (by omega)
            have FN : Aside0 (S.found (k : Int) = none) := ⟨found_no S.waits (k : Int) (fun j hj => HA.out j hj (by omega))⟩
            have hks : k < S.secs.length := by rw [← N.out]; have := P2.out; omega
            obtain ⟨adt, hAt, kt⟩ := Kd.at_bool HT.out (k : Int) (by omega) P2.out
            obtain ⟨adl, hAl, kl⟩ := Kd.at_string HL.out (k : Int) (by omega) P2.out
            rw [Int.toNat_natCast] at kt kl
            have ht1 : rdOf false (S.secs.map (·.2)) (k : Int) = (S.secs[k]?.getD (none, false)).2 := by simp [rdOf, hks]
            have hl1 : rdOf ByteArray.empty (S.secs.map secStr) (k : Int) = strOfNums ((S.secs[k]?.getD (none, false)).1.getD noughts) := by simp [rdOf, hks, secStr]
            rw [ht1] at kt
            rw [hl1] at kl
            subst hAt
            subst hAl
            obtain ⟨y, hy⟩ : ∃ y, y = (S.secs[k]?.getD (none, false)).2 := ⟨_, rfl⟩
            rw [← hy] at kt
            have R0 : Aside0 (S.read (k : Int) = if y then ([], 3) else ((S.secs[k]?.getD (none, false)).1.getD noughts, 0)) := ⟨by
              unfold FSt.read
              rw [if_pos IN.out, if_neg HO.out, FN.out, Int.toNat_natCast, ← hy]⟩
            clear ht1 hl1 hy hks hlt ht
            cases y with
            | true =>
              have R1 : Aside0 (S.read (k : Int) = ([], 3)) := ⟨by rw [R0.out]; rfl⟩
              go_wp2_with fail
              go_ret2
              rw [R1.out]
              exact ⟨rfl, rfl⟩
            | false =>
              have R1 : Aside0 (S.read (k : Int) = ((S.secs[k]?.getD (none, false)).1.getD noughts, 0)) := ⟨by rw [R0.out]; rfl⟩
              go_wp2_with fail
              go_ret2
              rw [R1.out]
              exact ⟨rfl, rfl⟩
end Go.Proofs.Ytgakjpnfbgmjjaa.PA
