import Derived.Test.YtgakjpnfbgmjjaaL10
import Derived.RangeFuncBox
import Derived.RangeFuncLeaves
import Derived.RangeFuncNested
import Derived.RangeFuncBound
import Derived.RangeFuncCalls
import Derived.Shelf.Abstract
import Derived.WalkKit
import Derived.OwnWalkIn
import Derived.TacticsInMore
import Derived.LoopNIn
import Derived.LoopIn
import Derived.Deep.Slices
import Derived.SizedLaws
import Derived.IntWalk
import Derived.ArgAppend
namespace Go.Proofs.Ytgakjpnfbgmjjaa.PA
open Go.RowKit Go.Proofs.YtgakjpnfbgmjjaaW.PrintWords Go.Proofs.YtgakjpnfbgmjjaaW.PrintLast Go.Proofs.YtgakjpnfbgmjjaaW.PrintMore
set_option linter.unusedVariables false
set_option linter.unusedSimpArgs false
/-! ### FlashPicks -/
theorem info3' : (Try.prog.info? 3).map (fun i => (i.zero, i.size, i.bytes)) = some (some (.int .i64 0), 1, 8) := by kernel_rfl
theorem copy_ints (W : World) (A0 : Option Addr) (c0 : Nat) (l0 : List Int) (hr : Kd.C (Kd.int .i64) W A0 l0.length l0) (hl : l0.length * 8 ≤ 140737488351232) :
    ∃ A n c w', (Builtin.append_ #[22, 22] 22 #[.slice (some ⟨W.heap.size, 0, none⟩) 0 0, .slice A0 l0.length c0]).run Try.prog (W.alloc (.cells #[] 3)) = .ok (.slice A n c) w' ∧ IntBlk w' (.slice A n c) l0 ∧ Below W.heap.size W w' := by
  obtain ⟨i, hi, hz, hs, hby⟩ := info_parts info3'
  have hbel : Below W.heap.size W (W.alloc (.cells #[] 3)) := below_alloc (Below.refl _ _) _
  cases A0 with
  | none =>
    have h0 : l0.length = 0 := by
      rcases Nat.eq_zero_or_pos l0.length with h0 | h0
      · exact h0
      · obtain ⟨ad, h, _⟩ := hr.2.2 h0
        cases h
    obtain rfl := List.eq_nil_of_length_eq_zero h0
    refine ⟨some ⟨W.heap.size, 0, none⟩, 0, 0, _, ?_, ⟨_, _, rfl, by simp, fun h => by simp at h⟩, hbel⟩
    simp [Builtin.append_, run_underlying Try.underlying22, sizeOf, typeInfo, hi, Builtin.lenOf, Builtin.firstCells, storeCells, Result.andThen]
  | some ad =>
    have hc := Kd.C_below hr hbel
    have hnum : ∀ j u, (nums .i64 l0)[j]? = some u → (W.alloc (.cells #[] 3)).cell? (ad.add j) = some u := fun j u hu => by
      have hj : j < l0.length := by have := (List.getElem?_eq_some_iff.1 hu).1; simpa [nums] using this
      obtain ⟨ad', h1, h2⟩ := Kd.at_int hc (j : Int) (by omega) (by omega)
      rw [Option.some.injEq] at h1
      subst h1
      rw [Int.toNat_natCast] at h2
      rw [h2]
      simp only [nums, List.getElem?_map, List.getElem?_eq_getElem hj, Option.map_some, Option.some.injEq] at hu
      rw [← hu]
      simp [rd, hj]
    obtain ⟨v', w1, hr1, ho, hg, _⟩ := run_append_own (P := Try.prog) (W.alloc (.cells #[] 3)) W.heap.size 22 22 3 i _ 1 8 Try.underlying22 hi hz hs hby rfl (by decide) _ 0 [] (World.ownsRow_made W #[] 0 (Nat.le_refl _) (Nat.zero_le _) (by simp)) ad l0.length c0 (nums .i64 l0) (by simp [nums]) hnum (by intro u hu; simp only [nums, List.mem_map] at hu; obtain ⟨x, _, rfl⟩ := hu; rfl) (by simp only [maxLen]; omega) (by omega) (by simp)
    rw [Nat.zero_add, List.nil_append] at ho
    have hB : Below W.heap.size W w1 := ((Below.refl W.heap.size W).alloc (Nat.le_refl _) (.cells #[] 3)).grown hg (by simp) (by intro k hk; simp [Value.ownBlock] at hk; omega)
    have hIB : ∃ A n c, v' = .slice A n c ∧ IntBlk w1 (.slice A n c) l0 := by
      rcases ho.2 with ⟨rfl, h0⟩ | ⟨g, cap, cur, rfl, _, hh, hle, hm, hsz, htk⟩
      · exact ⟨_, _, _, rfl, ⟨_, _, by rw [h0], by omega, fun h => by omega⟩⟩
      · refine ⟨_, _, _, rfl, ⟨_, _, rfl, by omega, fun h0 => ⟨g, 0, cur, rfl, hh, fun j hj => ?_⟩⟩⟩
        have h2 : (nums .i64 l0)[j]? = some (.int .i64 l0[j]) := by simp [nums, hj]
        rw [← htk, List.getElem?_take] at h2
        split at h2
        · rw [Nat.zero_add, ← Array.getElem?_toList]; exact h2
        · cases h2
    obtain ⟨A, n, c, rfl, hI⟩ := hIB
    exact ⟨A, n, c, w1, hr1, hI, hB⟩
def pickAt (ks : List Int) (i : Nat) : Int := if i < ks.length then pickI (ks[i]?.getD 0) else 0
def wrote (i : Nat) : List (Int × List Int) := (List.range i).map fun (j : Nat) => ((j : Int), bytesL (100 + (j : Int)) 0)
theorem wrote_len (i : Nat) : (wrote i).length = i := by simp [wrote]
theorem wrote_succ (i : Nat) : wrote (i + 1) = wrote i ++ [((i : Int), bytesL (100 + (i : Int)) 0)] := by simp [wrote, List.range_succ]
theorem wrote_get (i j : Nat) (h : j < i) : (wrote i)[j]? = some ((j : Int), bytesL (100 + (j : Int)) 0) := by simp [wrote, h]
theorem picks_get (S : FSt) (m : Nat) (hw : S.waits = wrote m) (hs : S.secs = List.replicate 32 (none, false)) (hm : m ≤ 32) (ks : List Int) (j : Nat) (hj : j < 32) : ∀ t, t ≤ m → t ≤ ks.length → (S.picks ks t).secs[j]? = some (if j < t then (if pickAt ks j = 1 then (some (bytesL (100 + (j : Int)) 0), false) else if pickAt ks j = 2 then (none, true) else (none, false)) else (none, false))
  | 0, _, _ => by rw [FSt.picks, hs, if_neg (by omega), List.getElem?_replicate, if_pos hj]
  | t + 1, h1, h2 => by
    have ih := picks_get S m hw hs hm ks j hj t (by omega) (by omega)
    have hlen : (S.picks ks t).secs.length = 32 := by rw [FSt.picks_len, hs, List.length_replicate]
    have hp : pickI (ks[t]?.getD 0) = pickAt ks t := by unfold pickAt; rw [if_pos (by omega)]
    rw [FSt.picks, hw, wrote_get m t (by omega), hp]
    simp only [Option.getD_some]
    by_cases hjt : j = t
    · subst hjt
      rw [if_pos (by omega)]
      rw [if_neg (by omega)] at ih
      unfold FSt.picked
      by_cases p1 : pickAt ks j = 1
      · rw [if_pos p1, if_pos p1]
        simp only [FSt.last, Int.toNat_natCast]
        rw [List.getElem?_set_self (by omega)]
      · rw [if_neg p1, if_neg p1]
        by_cases p2 : pickAt ks j = 2
        · rw [if_pos p2, if_pos p2]
          simp only [Int.toNat_natCast]
          rw [List.getElem?_set_self (by omega), ih]
          rfl
        · rw [if_neg p2, if_neg p2, ih]
    · have e : (if j < t + 1 then (if pickAt ks j = 1 then ((some (bytesL (100 + (j : Int)) 0), false) : Option (List Int) × Bool) else if pickAt ks j = 2 then (none, true) else (none, false)) else (none, false)) = (if j < t then (if pickAt ks j = 1 then (some (bytesL (100 + (j : Int)) 0), false) else if pickAt ks j = 2 then (none, true) else (none, false)) else (none, false)) := by
        by_cases h : j < t
        · rw [if_pos h, if_pos (by omega)]
        · rw [if_neg h, if_neg (by omega)]
      rw [e, ← ih]
      unfold FSt.picked
      split
      · simp only [FSt.last, Int.toNat_natCast]
        rw [List.getElem?_set_ne (by omega)]
      · split
        · simp only [Int.toNat_natCast]
          rw [List.getElem?_set_ne (by omega)]
        · rfl
def pickM (ks : List Int) (m i : Nat) : Int := if m ≤ i then 0 else pickAt ks i
theorem crash_read (S : FSt) (m : Nat) (hw : S.waits = wrote m) (hs : S.secs = List.replicate 32 (none, false)) (hm : m ≤ 32) (ks : List Int) (j : Nat) (hj : j < 32) :
    (S.crash ks).read (j : Int) = if pickM ks m j = 2 then ([], 3) else if pickM ks m j = 1 then (bytesL (100 + (j : Int)) 0, 0) else (noughts, 0) := by
  have hg := picks_get S m hw hs hm ks j hj (min m ks.length) (Nat.min_le_left _ _) (Nat.min_le_right _ _)
  have hl : (S.crash ks).secs.length = 32 := by show (S.picks ks _).secs.length = 32; rw [FSt.picks_len, hs, List.length_replicate]
  have hs2 : (S.crash ks).secs[j]? = some (if j < min m ks.length then (if pickAt ks j = 1 then (some (bytesL (100 + (j : Int)) 0), false) else if pickAt ks j = 2 then (none, true) else (none, false)) else (none, false)) := by
    rw [← hg]
    show (S.picks ks (min S.waits.length ks.length)).secs[j]? = _
    rw [hw, wrote_len]
  have hf : (S.crash ks).found (j : Int) = none := rfl
  have ho : (S.crash ks).off = false := rfl
  unfold FSt.read
  rw [if_pos (FSt.isIn_iff.2 ⟨by omega, by rw [hl]; omega⟩), ho, hf, Int.toNat_natCast, hs2]
  simp only [Option.getD_some, Bool.false_eq_true, if_false]
  unfold pickM
  by_cases h1 : j < min m ks.length
  · have hmj : ¬ m ≤ j := by have := Nat.lt_min.1 h1; omega
    simp only [if_pos h1, if_neg hmj]
    by_cases p1 : pickAt ks j = 1
    · rw [p1]
      rfl
    · by_cases p2 : pickAt ks j = 2
      · rw [p2]
        rfl
      · simp only [if_neg p1, if_neg p2]
        rfl
  · rw [if_neg h1]
    have h0 : (if m ≤ j then (0 : Int) else pickAt ks j) = 0 := by
      split
      · rfl
      · unfold pickAt
        rw [if_neg (fun h => h1 (Nat.lt_min.2 ⟨by omega, h⟩))]
    rw [h0]
    rfl
theorem pick_val (ks : List Int) (i : Nat) : cisternref01_Pick.f ks (i : Int) = some (pickAt ks i) := by
  unfold cisternref01_Pick.f pickAt
  by_cases h : i < ks.length
  · rw [if_neg (by omega), if_pos (by omega), if_pos (by omega), if_pos h]
    unfold pickI
    rw [show rd ks (i : Int) = ks[i]?.getD 0 by simp [rd, h]]
  · rw [if_pos (by omega), if_neg h]
end Go.Proofs.Ytgakjpnfbgmjjaa.PA
