import Derived.Test.YtgakjpnfbgmjjaaL3
import Derived.RangeFuncBox
import Derived.RangeFuncLeaves
import Derived.RangeFuncNested
import Derived.RangeFuncBound
import Derived.RangeFuncCalls
import Derived.Shelf.Abstract
import Derived.WalkKit
import Derived.OwnWalkIn
import Derived.TacticsInMore
import Derived.LoopNIn
import Derived.LoopIn
import Derived.Deep.Slices
import Derived.SizedLaws
import Derived.IntWalk
import Derived.ArgAppend
namespace Go.Proofs.Ytgakjpnfbgmjjaa.PA
open Go.RowKit Go.Proofs.YtgakjpnfbgmjjaaW.PrintWords Go.Proofs.YtgakjpnfbgmjjaaW.PrintLast Go.Proofs.YtgakjpnfbgmjjaaW.PrintMore
set_option linter.unusedVariables false
set_option linter.unusedSimpArgs false
/-! ### slices.Backward over the writes that wait -/
section
attribute [local go_sem] Oper.semAt_some
def backL (n : Nat) : List (Fin n) := List.ofFn fun j : Fin n => ⟨n - 1 - j.1, by have := j.2; omega⟩
theorem backL_length (n : Nat) : (backL n).length = n := List.length_ofFn
theorem backL_get (n k : Nat) (h : k < (backL n).length) : ((backL n)[k]).1 = n - 1 - k := by simp [backL]
set_option maxRecDepth 100000 in
set_option maxHeartbeats 2000000 in
theorem back1_in (F : Fence) (n : Nat) (h36 : F.fn 36) (hro : F.round = none) (hn : 1 ≤ n) (l Bs n₀ len cap : Nat) (A : Option Addr) (hlen : len ≤ 1000000) (ats : Fin len → Int) (vals : Fin len → Option Addr) (cps : Fin len → Nat) (ls : Fin len → Nat)
    (hA : 0 < len → ∃ b, A = some ⟨b, 0, none⟩ ∧ b < n₀) (J Jx : List (Fin len) → World → Prop)
    (hY : ∀ pre x W, J pre W → pre.length < len → YieldAt F (n - 1) Try.prog l #[.int .i64 (x.1 : Int), .agg #[.int .i64 (ats x), .slice (vals x) (ls x) (cps x)]] W fun e W' =>
      (e = .returned (.bool true) ∧ J (pre ++ [x]) W' ∧ Below n₀ W W') ∨ (e = .returned (.bool false) ∧ Jx (pre ++ [x]) W'))
    (W : World) (hBs : W.cell? ⟨Bs, 0, none⟩ = some (.slice A len cap)) (hBs0 : Bs < n₀) (hc : ∀ b, A = some ⟨b, 0, none⟩ → ∀ x : Fin len, W.cell? ⟨b, x.1 * 2, none⟩ = some (.int .i64 (ats x)) ∧ W.cell? ⟨b, x.1 * 2 + 1, none⟩ = some (.slice (vals x) (ls x) (cps x))) (h0 : J [] W) :
    CallsIn F n Try.prog 36 #[.func (.yield l) #[] #[], .pointer (some ⟨Bs, 0, none⟩)] W fun e W' => (∃ v, e = .returned v) ∧
      ((∃ ys, ys = backL len ∧ J ys W') ∨ (∃ pre, (∃ k, k ≤ len ∧ pre = (backL len).take k) ∧ Jx pre W')) := by
  have HC := Aside0.mk hc
  clear hc
  refine callsIn_of_wp Try.func36 rfl h36 ?_ hro
  simp only [Try.ntmps36, List.size_toArray, List.length_cons, List.length_nil, Nat.reduceAdd, Nat.reduceSub, Array.replicate_succ, Array.replicate_zero, List.push_toArray, List.append_toArray, List.nil_append, List.cons_append]
  have w0 : wrap64 ((len : Int) - 1) = (len : Int) - 1 := by unfold wrap64; omega
  gi_wp2
  gi_loopw [3] (fun i wr => ∃ k : Nat, k ≤ len ∧ i = .int .i64 ((len : Int) - 1 - (k : Int)) ∧ J ((backL len).take k) wr ∧ Below n₀ W wr)
    (fun i _ => (intOf i + 1).toNat)
  case atStart => exact ⟨0, Nat.zero_le _, by simp, h0, Below.refl _ _⟩
  case round =>
    obtain ⟨k, hk, rfl, hJs, hnx⟩ := hrel
    by_cases hlt : k < len
    · obtain ⟨b, rfl, hb⟩ := hA (by omega)
      obtain ⟨i, hi⟩ : ∃ i : Nat, i = len - 1 - k := ⟨_, rfl⟩
      have e1 : (len : Int) - 1 - (k : Int) = (i : Int) := by omega
      have hil : i < len := by omega
      rw [e1]
      have hBs' : wr.cell? ⟨Bs, 0, none⟩ = some (.slice (some ⟨b, 0, none⟩) len cap) := (hnx.cell (p := ⟨Bs, 0, none⟩) hBs0).trans hBs
      have c0 := (hnx.cell (p := ⟨b, i * 2, none⟩) hb).trans (HC.out b rfl ⟨i, hil⟩).1
      have c1 := (hnx.cell (p := ⟨b, i * 2 + 1, none⟩) hb).trans (HC.out b rfl ⟨i, hil⟩).2
      obtain ⟨fn, tmps, assign, body, hy, hR⟩ := hY _ ⟨i, hil⟩ wr hJs (by rw [List.length_take, backL_length]; omega)
      have hN : (backL len).take (k + 1) = (backL len).take k ++ [⟨i, hil⟩] := by
        rw [List.take_succ_eq_append_getElem (by rw [backL_length]; exact hlt)]
        congr 2
        exact Fin.ext ((backL_get _ _ _).trans hi.symm)
      have p1 : (0 : Int) ≤ (i : Int) := Int.natCast_nonneg _
      have p2 : (i : Int) < (len : Int) := Int.ofNat_lt.2 hil
      have HN := Aside0.mk hN
      have w1 : wrap64 ((i : Int) - 1) = (i : Int) - 1 := by unfold wrap64; omega
      have HE := Aside0.mk (show (i : Int) - 1 = (len : Int) - 1 - ((k + 1 : Nat) : Int) by omega)
      have HK := Aside0.mk hlt
      dsimp only at hy
      clear hN hi e1 hlt
      gi_wp2
      refine hR.mono ?_
      rintro e W3 (⟨rfl, hJ3, hk3⟩ | ⟨rfl, hJx3⟩)
      · gi_wp2
        go_roundw
        case rel => exact ⟨k + 1, HK.out, by rw [← HE.out], by rw [HN.out]; exact hJ3, hnx.trans hk3⟩
        case measure => simp [intOf]
      · gi_wp2
        refine bodyPost_ret (results_none rfl _ _ _) rfl ?_
        exact ⟨⟨_, rfl⟩, .inr ⟨_, ⟨k + 1, HK.out, rfl⟩, by rw [HN.out]; exact hJx3⟩⟩
    · obtain rfl : k = len := by omega
      have d1 : decide (0 ≤ (k : Int) - 1 - (k : Int)) = false := decide_eq_false (by omega)
      gi_wp2
      go_end0
      refine ⟨⟨_, rfl⟩, .inl ⟨_, rfl, ?_⟩⟩
      rw [List.take_of_length_le (by rw [backL_length]; exact Nat.le_refl _)] at hJs
      exact hJs
set_option maxHeartbeats 1000000 in
theorem back_in (F : Fence) (n : Nat) (h28 : F.fn 28) (hro : F.round = none) (a : Option Addr) (len cap : Nat) (w : World) :
    CallsIn F n Try.prog 28 #[.slice a len cap] w fun e w' => e = .returned (.func (.func 36) #[] #[.pointer (some ⟨w.heap.size, 0, none⟩)]) ∧ w' = w.alloc (.cells #[.slice a len cap] 59) := by
  refine callsIn_of_wp Try.func28 rfl h28 ?_ hro
  simp only [Try.ntmps28, List.size_toArray, List.length_cons, List.length_nil, Nat.reduceAdd, Nat.reduceSub, Array.replicate_succ, Array.replicate_zero, List.push_toArray, List.append_toArray, List.nil_append, List.cons_append]
  gi_wp2
  go_ret
  exact ⟨rfl, rfl⟩
theorem back_stops (F : Fence) (n : Nat) (h36 : F.fn 36) (hro : F.round = none) (hn : 1 ≤ n) (Bs n₀ len cap : Nat) (A : Option Addr) (hlen : len ≤ 1000000) (ats : Fin len → Int) (vals : Fin len → Option Addr) (cps : Fin len → Nat) (ls : Fin len → Nat) (w : World)
    (hA : 0 < len → ∃ b, A = some ⟨b, 0, none⟩ ∧ b < n₀) (hBs : Bs < n₀) (hn₀ : n₀ ≤ w.heap.size)
    (hc : w.cell? ⟨Bs, 0, none⟩ = some (.slice A len cap)) (hI : ∀ b, A = some ⟨b, 0, none⟩ → ∀ x : Fin len, w.cell? ⟨b, x.1 * 2, none⟩ = some (.int .i64 (ats x)) ∧ w.cell? ⟨b, x.1 * 2 + 1, none⟩ = some (.slice (vals x) (ls x) (cps x))) :
    SeqStopsK F n Try.prog 36 #[.pointer (some ⟨Bs, 0, none⟩)] (fun x : Fin len => #[.int .i64 (x.1 : Int), .agg #[.int .i64 (ats x), .slice (vals x) (ls x) (cps x)]]) (Below n₀) (fun ys => ys = backL len) (fun pre => ∃ k, k ≤ len ∧ pre = (backL len).take k) len w := fun l J Jx W hW _ _ hY h0 => by
  have hc' := (hW.cell (p := ⟨Bs, 0, none⟩) (Nat.lt_of_lt_of_le hBs hn₀)).trans hc
  refine back1_in F n h36 hro hn l Bs n₀ len cap A hlen ats vals cps ls hA J Jx hY W hc' hBs (fun b hb x => ?_) h0
  have hbl : b < w.heap.size := by
    obtain ⟨b', h1, h2⟩ := hA (by have := x.2; omega)
    rw [hb] at h1
    simp only [Option.some.injEq, Addr.mk.injEq] at h1
    omega
  exact ⟨(hW.cell (p := ⟨b, x.1 * 2, none⟩) hbl).trans (hI b hb x).1, (hW.cell (p := ⟨b, x.1 * 2 + 1, none⟩) hbl).trans (hI b hb x).2⟩
end
end Go.Proofs.Ytgakjpnfbgmjjaa.PA
