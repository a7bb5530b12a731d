import Derived.Test.YtgakjpnfbgmjjaaL14
import Derived.RangeFuncBox
import Derived.RangeFuncLeaves
import Derived.RangeFuncNested
import Derived.RangeFuncBound
import Derived.RangeFuncCalls
import Derived.Shelf.Abstract
import Derived.WalkKit
import Derived.OwnWalkIn
import Derived.TacticsInMore
import Derived.LoopNIn
import Derived.LoopIn
import Derived.Deep.Slices
import Derived.SizedLaws
import Derived.IntWalk
import Derived.ArgAppend
namespace Go.Proofs.Ytgakjpnfbgmjjaa.PA
open Go.RowKit Go.Proofs.YtgakjpnfbgmjjaaW.PrintWords Go.Proofs.YtgakjpnfbgmjjaaW.PrintLast Go.Proofs.YtgakjpnfbgmjjaaW.PrintMore
set_option linter.unusedVariables false
set_option linter.unusedSimpArgs false
/-! ### The document's device in memory, of the same value -/
def secStr (s : Option (List Int) × Bool) : ByteArray := strOfNums (s.1.getD noughts)
def FSt.refArmed (S : FSt) : Int := if S.armed then S.left else -1
def FSt.refWaits (S : FSt) : List S78 := S.waits.map fun q => ⟨q.1, strOfNums q.2⟩
structure RRows (W : World) (G : Nat → Prop) (vl vt vw : Value) (secs : List (Option (List Int) × Bool)) (waits : List (Int × List Int)) : Prop where
  hl : Kd.string.R 9 W 0 G vl (secs.map secStr)
  ht : Kd.bool.R 4 W 0 G vt (secs.map (·.2))
  hw : k78.R 78 W 0 G vw (waits.map fun q => (⟨q.1, strOfNums q.2⟩ : S78))
structure RDevAt (W : World) (G : Nat → Prop) (r : Nat) (vl vt vw : Value) (S : FSt) : Prop where
  gr : G r
  hr : W.heap[r]? = some (.cells #[vl, vt, vw, .bool S.off, .int .i64 S.refArmed] 55 (0, 0))
  rows : RRows W G vl vt vw S.secs S.waits
def RDev (W : World) (G : Nat → Prop) (r : Nat) (S : FSt) : Prop := ∃ vl vt vw, RDevAt W G r vl vt vw S
theorem R_go {α : Type} {d : Kd α} {e : Nat} {W W' : World} {G G' : Nat → Prop} {v : Value} {xs : List α} (h : d.R e W 0 G v xs) (hm : ∀ k, G k → k < W.heap.size → W'.heap[k]? = W.heap[k]?) (hG : ∀ k, G k → k < W.heap.size → G' k) : d.R e W' 0 G' v xs :=
  Kd.R_mono (Kd.R_step (Kd.R_bound h) (fun k hk hl => hm k hk.1 hl)) (fun k hk => hG k hk.1 hk.2.2.1)
theorem RRows.move {W W' : World} {G G' : Nat → Prop} {vl vt vw : Value} {ss : List (Option (List Int) × Bool)} {ws : List (Int × List Int)} (h : RRows W G vl vt vw ss ws) (hm : ∀ k, G k → k < W.heap.size → W'.heap[k]? = W.heap[k]?) (hG : ∀ k, G k → k < W.heap.size → G' k) : RRows W' G' vl vt vw ss ws :=
  ⟨R_go h.hl hm hG, R_go h.ht hm hG, R_go h.hw hm hG⟩
theorem RDevAt.move {W W' : World} {G G' : Nat → Prop} {r : Nat} {vl vt vw : Value} {S : FSt} (h : RDevAt W G r vl vt vw S) (hm : ∀ k, G k → k < W.heap.size → W'.heap[k]? = W.heap[k]?) (hG : ∀ k, G k → k < W.heap.size → G' k) : RDevAt W' G' r vl vt vw S :=
  ⟨hG r h.gr (blk_lt h.hr), (hm r h.gr (blk_lt h.hr)).trans h.hr, h.rows.move hm hG⟩
theorem RRows.set {W : World} {G : Nat → Prop} {vl vt vw : Value} {ss : List (Option (List Int) × Bool)} {ws : List (Int × List Int)} (h : RRows W G vl vt vw ss ws) {r : Nat} {cells : Array Value} (hb : W.heap[r]? = some (.cells cells 55 (0, 0))) (j : Nat) (u : Value) : RRows (W.setCell ⟨r, j, none⟩ u) G vl vt vw ss ws :=
  ⟨Kd.R_set h.hl hb (by intro q hq; simp [Kd.string, Kd.scalar] at hq; omega) j u, Kd.R_set h.ht hb (by intro q hq; simp [Kd.bool, Kd.scalar] at hq; omega) j u, Kd.R_set h.hw hb (by intro q hq; revert q; decide) j u⟩
theorem RDevAt.drew {W : World} {G : Nat → Prop} {r : Nat} {vl vt vw : Value} {S : FSt} (h : RDevAt W G r vl vt vw S) : RDevAt W.drew G r vl vt vw S := h.move (fun _ _ _ => rfl) (fun _ h _ => h)
theorem RDevAt.cells {W : World} {G : Nat → Prop} {r : Nat} {vl vt vw : Value} {S : FSt} (h : RDevAt W G r vl vt vw S) : W.cell? ⟨r, 0, none⟩ = some vl ∧ W.cell? ⟨r, 1, none⟩ = some vt ∧ W.cell? ⟨r, 2, none⟩ = some vw ∧ W.cell? ⟨r, 3, none⟩ = some (.bool S.off) ∧ W.cell? ⟨r, 4, none⟩ = some (.int .i64 S.refArmed) ∧ ∀ i, W.frozen? ⟨r, i, none⟩ = false :=
  ⟨(blk_cell h.hr 0).trans rfl, (blk_cell h.hr 1).trans rfl, (blk_cell h.hr 2).trans rfl, (blk_cell h.hr 3).trans rfl, (blk_cell h.hr 4).trans rfl, fun i => blk_frozen h.hr i⟩
theorem RDevAt.slices {W : World} {G : Nat → Prop} {r : Nat} {vl vt vw : Value} {S : FSt} (h : RDevAt W G r vl vt vw S) : (∃ A c, vl = .slice A S.secs.length c) ∧ (∃ A c, vt = .slice A S.secs.length c) ∧ (∃ A c, vw = .slice A S.waits.length c) := by
  obtain ⟨A, c, h1⟩ := Kd.R_slice h.rows.hl
  obtain ⟨A', c', h2⟩ := Kd.R_slice h.rows.ht
  obtain ⟨A'', c'', h3⟩ := Kd.R_slice h.rows.hw
  simp only [List.length_map] at h1 h2 h3
  exact ⟨⟨A, c, h1⟩, ⟨A', c', h2⟩, ⟨A'', c'', h3⟩⟩
/-- The invariant of the count. -/
def FSt.Cnt (S : FSt) : Prop := S.armed = true → 0 ≤ S.left ∧ S.left ≤ 9223372036854775807
theorem FSt.Cnt.stops {S : FSt} (h : S.Cnt) : S.stops = (S.off || S.refArmed == 0) := by
  unfold FSt.stops FSt.refArmed
  cases S.armed with
  | true => simp
  | false => simp
set_option maxHeartbeats 1000000 in
theorem rdev_spend {W : World} {G : Nat → Prop} {r : Nat} {vl vt vw : Value} {S : FSt} (h : RDevAt W G r vl vt vw S) (hc : S.Cnt) :
    Calls Try.prog 38 #[.pointer (some ⟨r, 0, none⟩)] W fun e W' => e = .returned (.bool (!S.stops)) ∧ RDevAt W' G r vl vt vw S.spent ∧ Only r W W' := by
  obtain ⟨-, -, -, c3, c4, hf⟩ := h.cells
  have f3 := hf 3
  have f4 := hf 4
  have X := Aside0.mk h
  have HS := Aside0.mk hc.stops
  have HC := Aside0.mk hc
  clear h hf hc
  by_cases ho : S.off = true
  · have hs : S.stops = true := by rw [HS.out, ho]; rfl
    rw [ho] at c3
    have Y : Aside0 (RDevAt (W.setCell ⟨r, 3, none⟩ (.bool true)) G r vl vt vw S.spent) := ⟨⟨X.out.gr, by
      rw [FSt.spent_stop hs]
      exact heap_setCell_same W r 3 _ 55 (.bool true) X.out.hr, X.out.rows.set X.out.hr 3 _⟩⟩
    have O := Aside0.mk ((Only.refl r W).setCell 3 (.bool true))
    go_enter Try.func38, Try.ntmps38
    go_wp2_with fail
    go_ret
    rw [hs]
    exact ⟨rfl, Y.out, O.out⟩
  · have ho' : S.off = false := by simpa using ho
    rw [ho'] at c3
    by_cases hz : S.refArmed = 0
    · have hs : S.stops = true := by rw [HS.out, hz]; simp
      rw [hz] at c4
      have Y : Aside0 (RDevAt (W.setCell ⟨r, 3, none⟩ (.bool true)) G r vl vt vw S.spent) := ⟨⟨X.out.gr, by
        rw [FSt.spent_stop hs]
        exact heap_setCell_same W r 3 _ 55 (.bool true) X.out.hr, X.out.rows.set X.out.hr 3 _⟩⟩
      have O := Aside0.mk ((Only.refl r W).setCell 3 (.bool true))
      clear hz
      go_enter Try.func38, Try.ntmps38
      go_wp2_with fail
      go_ret
      rw [hs]
      exact ⟨rfl, Y.out, O.out⟩
    · have hz' : (S.refArmed == 0) = false := beq_eq_false_iff_ne.2 hz
      have hs : S.stops = false := by rw [HS.out, ho', hz']; rfl
      by_cases ha : S.armed = true
      · have hle := HC.out ha
        have hra : S.refArmed = S.left := by unfold FSt.refArmed; rw [if_pos ha]
        have hd : decide (0 < S.refArmed) = true := decide_eq_true (by rw [hra] at hz ⊢; omega)
        have Y : Aside0 (RDevAt (W.setCell ⟨r, 4, none⟩ (.int .i64 (wrap64 (S.refArmed - 1)))) G r vl vt vw S.spent) := ⟨⟨X.out.gr, by
          have e : S.spent.refArmed = wrap64 (S.refArmed - 1) := by
            rw [FSt.spent_armed hs ha, hra]
            unfold FSt.refArmed
            rw [if_pos ha]
          have e2 : S.spent.off = S.off := by rw [FSt.spent_armed hs ha]
          rw [e, e2]
          exact heap_setCell_same W r 4 _ 55 (.int .i64 (wrap64 (S.refArmed - 1))) X.out.hr, X.out.rows.set X.out.hr 4 _⟩⟩
        have O := Aside0.mk ((Only.refl r W).setCell 4 (.int .i64 (wrap64 (S.refArmed - 1))))
        clear hra hle ha hz
        go_enter Try.func38, Try.ntmps38
        go_wp2_with fail
        go_ret
        rw [hs]
        exact ⟨rfl, Y.out, O.out⟩
      · have ha' : S.armed = false := by simpa using ha
        have hra : S.refArmed = -1 := by unfold FSt.refArmed; rw [ha']; rfl
        rw [hra] at c4
        clear hra hz hz'
        go_enter Try.func38, Try.ntmps38
        go_wp2_with fail
        go_ret
        rw [hs, FSt.spent_free hs ha']
        exact ⟨rfl, X.out, Only.refl _ _⟩
theorem FSt.arm_ref (S : FSt) (n : Int) : (S.arm n).refArmed = if n < -1 then -1 else n := by
  unfold FSt.arm FSt.refArmed
  by_cases h : 0 ≤ n
  · rw [decide_eq_true h, if_pos rfl, if_neg (by omega)]
  · rw [decide_eq_false h]
    simp only [Bool.false_eq_true, if_false]
    split <;> omega
set_option maxHeartbeats 1000000 in
theorem rdev_arm {W : World} {G : Nat → Prop} {r : Nat} {vl vt vw : Value} {S : FSt} (h : RDevAt W G r vl vt vw S) (n : Int) :
    Calls Try.prog 33 #[.pointer (some ⟨r, 0, none⟩), .int .i64 n] W fun e W' => e = .returned (.tuple #[]) ∧ RDevAt W' G r vl vt vw (S.arm n) ∧ Only r W W' := by
  obtain ⟨-, -, -, -, c4, hf⟩ := h.cells
  have f4 := hf 4
  have Y : Aside0 (RDevAt (W.setCell ⟨r, 4, none⟩ (.int .i64 (if n < -1 then -1 else n))) G r vl vt vw (S.arm n)) := ⟨⟨h.gr, by
    rw [FSt.arm_ref]
    exact heap_setCell_same W r 4 _ 55 (.int .i64 (if n < -1 then -1 else n)) h.hr, h.rows.set h.hr 4 _⟩⟩
  have O := Aside0.mk ((Only.refl r W).setCell 4 (.int .i64 (if n < -1 then -1 else n)))
  clear h hf
  by_cases hn : n < -1
  · rw [if_pos hn] at Y O
    have d1 : decide (n < -1) = true := decide_eq_true hn
    go_enter Try.func33, Try.ntmps33
    go_wp2_with fail
    go_end0
    exact ⟨rfl, Y.out, O.out⟩
  · rw [if_neg hn] at Y O
    have d1 : decide (n < -1) = false := decide_eq_false hn
    go_enter Try.func33, Try.ntmps33
    go_wp2_with fail
    go_end0
    exact ⟨rfl, Y.out, O.out⟩
end Go.Proofs.Ytgakjpnfbgmjjaa.PA
